/-
  A drawn region whose last operations write what its first ones read: what is taken first wants S only till a marked operation, which waits for it, has come up. No program in sight. Conditions: none.
  A drawn region with a mark: what asks nothing of the world is taken as soon as it is ready. No program in sight. Conditions: none.
  Law 08: keys, root, path, walked. Conditions: bytes.
  Law 08: turned, walked. Conditions: bytes; 67 chains, a path of 3.
-/
import Derived.Test.YtkbhehnpgnilmaaRg
import Derived.Test.YtkbhehnpgnilmaaMkI
import Derived.Deep.CutRange
import Derived.Deep.CutBlock
namespace Go.Proofs.Ytkbhehnpgnilmaa
open Go Go.RowKit Go.Sort

section
variable {P : Program} {ops : Array Oper} {md : Region.Mode} {Q : Exit → Act → World → Prop} {S : World → Prop} {m : Nat}

/-- every order from here on; S behind each operation, while the marked one has not come up -/
def wpAnyM (P : Program) (md : Region.Mode) (ops : Array Oper) (Q : Exit → Act → World → Prop) (S : World → Prop) (m : Nat) : Nat → Array Bool → Act → World → Prop
  | 0, l, a, w => Region.ready md ops l = [] ∧ Q .normal a w
  | f + 1, l, a, w => (Region.ready md ops l = [] → Q .normal a w) ∧
      ∀ i ∈ Region.ready md ops l, wpOp P ops Q i (fun a' w' => ((l.setIfInBounds i true).getD m true = false → S w') ∧ wpAnyM P md ops Q S m f (l.setIfInBounds i true) a' w') a w

theorem wpAny_of_marked : ∀ (f : Nat) (l : Array Bool) (a : Act) (w : World), wpAnyM P md ops Q S m f l a w → wpAny P md ops Q f l a w
  | 0, _, _, _, h => h
  | f + 1, _, _, _, h => ⟨h.1, fun i hi => wpOp_mono (fun a' w' k => wpAny_of_marked f _ a' w' k.2) (h.2 i hi)⟩

/-- the marked one waits for the i-th -/
def waitsB (md : Region.Mode) (ops : Array Oper) (m i : Nat) : Bool :=
  match ops[m]? with
  | some o => o.after.any (fun e => Region.binds md e && e.on == i)
  | none => false

theorem ready_no_wait {l : Array Bool} {i : Nat} (hi : i ∈ Region.ready md ops l) (hw : waitsB md ops m i = true) : m ∉ Region.ready md ops l := fun hm => by
  obtain ⟨hmu, om, hom, hall⟩ := mem_ready.1 hm
  unfold waitsB at hw
  rw [hom] at hw
  simp only [Array.any_eq_true] at hw
  obtain ⟨k, hk, hb⟩ := hw
  rw [Bool.and_eq_true, beq_iff_eq] at hb
  have h1 := hall _ (Array.getElem_mem hk) hb.1
  have h0 := (mem_ready.1 hi).1
  rw [hb.2] at h1
  rcases Nat.lt_or_ge i l.size with h | h
  · simp [h] at h0 h1
    rw [h0] at h1; cases h1
  · simp [Array.getElem?_eq_none h] at h1

theorem wpAnyM_first {i : Nat} {oi : Oper} {v : Value} (hi : ops[i]? = some oi) (hsel : ∀ (j : Nat) (o : Oper) cs b, ops[j]? = some o → o.op ≠ .select cs b)
    (hQ : ∀ c a w, Q (.panic c) (a.put oi.dst v) w → Q (.panic c) a w) (hwm : waitsB md ops m i = true) (him : i ≠ m) :
    ∀ (f : Nat) (l : Array Bool) (a : Act) (w : World), l.getD m true = false →
      (∀ j oj, ops[j]? = some oj → j ≠ i → l.getD j true = false → (∀ e ∈ oj.after, Region.binds md e = true → e.on ≠ i) → oi.apart ops oj = true) →
      i ∈ Region.ready md ops l → YieldsIf P ops S oi v a → S w →
      wpAnyM P md ops Q S m f (l.setIfInBounds i true) (a.put oi.dst v) w → wpAnyM P md ops Q S m (f + 1) l a w
  | 0, l, a, w, hl, _, hr, hy, hS, H => by
    refine ⟨fun h => (by rw [h] at hr; cases hr), fun j hj => ?_⟩
    rcases Nat.decEq j i with hji | hji
    · have := ready_mono hj hji
      rw [H.1] at this; cases this
    · subst hji
      exact hy.wpOp hi hS ⟨fun _ => hS, H⟩
  | f + 1, l, a, w, hl, hfree, hr, hy, hS, H => by
    refine ⟨fun h => (by rw [h] at hr; cases hr), fun j hj => ?_⟩
    rcases Nat.decEq j i with hji | hji
    rotate_left
    · subst hji
      exact hy.wpOp hi hS ⟨fun _ => hS, H⟩
    · have hjm : j ≠ m := fun e => ready_no_wait hr hwm (e ▸ hj)
      have hnext := H.2 j (ready_mono hj hji)
      obtain ⟨hju, oj, hoj, hall⟩ := mem_ready.1 hj
      have hno : ∀ e ∈ oj.after, Region.binds md e = true → e.on ≠ i := fun e he hb heq => by
        have h1 := hall e he hb
        have h0 := (mem_ready.1 hr).1
        rw [heq] at h1
        rcases Nat.lt_or_ge i l.size with h | h
        · simp [h] at h0 h1
          rw [h0] at h1; cases h1
        · simp [Array.getElem?_eq_none h] at h1
      have hput := wpOp_putIf hoj (hfree j oj hoj hji hju hno) (fun cs b => hsel i oi cs b hi) (fun cs b => hsel j oj cs b hoj) hQ hy hnext
      have hl' : (l.setIfInBounds j true).getD m true = false := by rw [getD_set_ne true hjm]; exact hl
      have hl2 : ((l.setIfInBounds i true).setIfInBounds j true).getD m true = false := by rw [getD_set_ne true hjm, getD_set_ne true him]; exact hl
      refine wpOp_mono (fun a' w' k => ?_) hput
      have hS' := k.2.1 hl2
      refine ⟨fun _ => hS', wpAnyM_first hi hsel hQ hwm him f (l.setIfInBounds j true) a' w' hl' (fun k' ok hk hki hun hn => ?_) (ready_mono hr (Ne.symm hji)) k.1 hS' ?_⟩
      · refine hfree k' ok hk hki ?_ hn
        by_cases hjk : j = k'
        · subst hjk; exact hju
        · rw [getD_set_ne true hjk] at hun; exact hun
      · rw [Array.setIfInBounds_comm _ _ hji]
        exact k.2.2

/-- they may be taken in this order, ahead of the marked one -/
def takesMB (md : Region.Mode) (ops : Array Oper) (m : Nat) : List Nat → Array Bool → Bool
  | [], _ => true
  | i :: is, l => Region.free md ops l i && ((Region.ready md ops l).contains i && (waitsB md ops m i && ((i != m) && (!(l.getD m true) && takesMB md ops m is (l.setIfInBounds i true)))))

theorem wpAnyM_takes (hsel : Region.noSelect ops = true) (hQ : ∀ c a a' w, Q (.panic c) a' w → Q (.panic c) a w) {fuel : Nat} {w : World} (hS : S w) : ∀ (is : List Nat) (l : Array Bool) (a : Act), takesMB md ops m is l = true →
    HeldL P ops S is (fun a' => wpAnyM P md ops Q S m fuel (marks is l) a' w) a → wpAnyM P md ops Q S m (is.length + fuel) l a w
  | [], l, a, _, h => by rw [List.length_nil, Nat.zero_add]; exact h
  | i :: is, l, a, hB, h => by
    simp only [takesMB, Bool.and_eq_true, bne_iff_ne, Bool.not_eq_true'] at hB
    obtain ⟨o, v, hi, hy, h⟩ := h
    rw [List.length_cons, show is.length + 1 + fuel = is.length + fuel + 1 by omega]
    exact wpAnyM_first hi (Region.noSelect_spec hsel) (fun c a' w' hh => hQ c _ _ w' hh) hB.2.2.1 hB.2.2.2.1 _ _ _ _ hB.2.2.2.2.1 (Region.free_spec hi hB.1) (by simpa using hB.2.1) hy hS (wpAnyM_takes hsel hQ hS is _ _ hB.2.2.2.2.2 h)

theorem wpAnyM_all {rs : List Nat} {f : Nat} {l : Array Bool} {a : Act} {w : World} (hr : Region.ready md ops l = rs) (hne : rs ≠ [])
    (h : ∀ i ∈ rs, wpOp P ops Q i (fun a' w' => ((l.setIfInBounds i true).getD m true = false → S w') ∧ wpAnyM P md ops Q S m f (l.setIfInBounds i true) a' w') a w) : wpAnyM P md ops Q S m (f + 1) l a w :=
  ⟨fun h0 => (hne (hr ▸ h0)).elim, hr ▸ h⟩
theorem wpAnyM_done {l : Array Bool} {a : Act} {w : World} (hr : Region.ready md ops l = []) (h : Q .normal a w) : ∀ f, wpAnyM P md ops Q S m f l a w
  | 0 => ⟨hr, h⟩
  | _ + 1 => ⟨fun _ => h, by rw [hr]; intro i hi; cases hi⟩

theorem wpAnyM_one (i : Nat) {o : Oper} {f : Nat} {l : Array Bool} {a : Act} {w : World} (hr : Region.ready md ops l = [i]) (ho : ops[i]? = some o)
    (h : wpList P ops (QK Q (fun a' w' => ((l.setIfInBounds i true).getD m true = false → S w') ∧ wpAnyM P md ops Q S m f (l.setIfInBounds i true) a' w')) [o] a w) : wpAnyM P md ops Q S m (f + 1) l a w :=
  wpAnyM_all hr (by simp) (fun j hj => by obtain rfl : j = i := by simpa using hj
                                          exact wpOp_of_list ho h)
theorem wpAnyM_two (i j : Nat) {o p : Oper} {f : Nat} {l : Array Bool} {a : Act} {w : World} (hr : Region.ready md ops l = [i, j]) (ho : ops[i]? = some o) (hp : ops[j]? = some p)
    (h : wpList P ops (QK Q (fun a' w' => ((l.setIfInBounds i true).getD m true = false → S w') ∧ wpAnyM P md ops Q S m f (l.setIfInBounds i true) a' w')) [o] a w)
    (k : wpList P ops (QK Q (fun a' w' => ((l.setIfInBounds j true).getD m true = false → S w') ∧ wpAnyM P md ops Q S m f (l.setIfInBounds j true) a' w')) [p] a w) : wpAnyM P md ops Q S m (f + 1) l a w :=
  wpAnyM_all hr (by simp) (fun n hn => by
    rcases (show n = i ∨ n = j by simpa using hn) with rfl | rfl
    · exact wpOp_of_list ho h
    · exact wpOp_of_list hp k)
theorem wpAnyM_three (i j n : Nat) {o p q : Oper} {f : Nat} {l : Array Bool} {a : Act} {w : World} (hr : Region.ready md ops l = [i, j, n]) (ho : ops[i]? = some o) (hp : ops[j]? = some p) (hq : ops[n]? = some q)
    (h : wpList P ops (QK Q (fun a' w' => ((l.setIfInBounds i true).getD m true = false → S w') ∧ wpAnyM P md ops Q S m f (l.setIfInBounds i true) a' w')) [o] a w)
    (k : wpList P ops (QK Q (fun a' w' => ((l.setIfInBounds j true).getD m true = false → S w') ∧ wpAnyM P md ops Q S m f (l.setIfInBounds j true) a' w')) [p] a w)
    (r : wpList P ops (QK Q (fun a' w' => ((l.setIfInBounds n true).getD m true = false → S w') ∧ wpAnyM P md ops Q S m f (l.setIfInBounds n true) a' w')) [q] a w) : wpAnyM P md ops Q S m (f + 1) l a w :=
  wpAnyM_all hr (by simp) (fun x hx => by
    rcases (show x = i ∨ x = j ∨ x = n by simpa using hx) with rfl | rfl | rfl
    · exact wpOp_of_list ho h
    · exact wpOp_of_list hp k
    · exact wpOp_of_list hq r)
end

/-- the region: first these, then the rest, S till the marked one -/
theorem wp_region_marked {P : Program} {id : Nat} {Q : Exit → Act → World → Prop} {a : Act} {w : World} {ls : List Oper} (S : World → Prop) (m : Nat) (is : List Nat) (fuel : Nat) (hm : P.follows .mixedOrders = true) (hn : ls.length = is.length + fuel)
    (hsel : Region.noSelect ls.toArray = true) (hB : takesMB .any ls.toArray m is (Array.replicate ls.toArray.size false) = true) (hS : S w.drew)
    (h : HeldL P ls.toArray S is (fun a' => wpAnyM P .any ls.toArray (NoPanic Q) S m fuel (marks is (Array.replicate ls.toArray.size false)) a' w.drew) a) : (Code.region id ls.toArray true).wp P Q a w := by
  refine wp_region_noPanic (wp_region_any hm (wpAny_of_marked _ _ _ _ (?_ : wpAnyM P .any ls.toArray (NoPanic Q) S m _ _ _ _)))
  have h2 := wpAnyM_takes (P := P) (md := .any) (m := m) (Q := NoPanic Q) hsel noPanic_any (fuel := fuel) hS is _ a hB h
  rw [← show ls.toArray.size = is.length + fuel by simpa using hn] at h2
  exact h2

end Go.Proofs.Ytkbhehnpgnilmaa

namespace Go.Proofs.Ytkbhehnpgnilmaa
open Go Go.RowKit Go.Sort

section
variable {P : Program} {ops : Array Oper} {md : Region.Mode} {Q : Exit → Act → World → Prop} {S : World → Prop} {m : Nat}

/-- what yields the same in every world may be taken as soon as it is ready, S or no S -/
theorem wpAnyM_pure {i : Nat} {oi : Oper} {v : Value} (hi : ops[i]? = some oi) (hsel : ∀ (j : Nat) (o : Oper) cs b, ops[j]? = some o → o.op ≠ .select cs b)
    (hQ : ∀ c a w, Q (.panic c) (a.put oi.dst v) w → Q (.panic c) a w) (him : i ≠ m) :
    ∀ (f : Nat) (l : Array Bool) (a : Act) (w : World), (l.getD m true = false → S w) →
      (∀ j oj, ops[j]? = some oj → j ≠ i → l.getD j true = false → (∀ e ∈ oj.after, Region.binds md e = true → e.on ≠ i) → oi.apart ops oj = true) →
      i ∈ Region.ready md ops l → YieldsIf P ops (fun _ => True) oi v a →
      wpAnyM P md ops Q S m f (l.setIfInBounds i true) (a.put oi.dst v) w → wpAnyM P md ops Q S m (f + 1) l a w
  | 0, l, a, w, hl, _, hr, hy, H => by
    refine ⟨fun h => (by rw [h] at hr; cases hr), fun j hj => ?_⟩
    rcases Nat.decEq j i with hji | hji
    · have := ready_mono hj hji
      rw [H.1] at this; cases this
    · subst hji
      exact hy.wpOp hi trivial ⟨fun h => hl (by rw [getD_set_ne true him] at h; exact h), H⟩
  | f + 1, l, a, w, hl, hfree, hr, hy, H => by
    refine ⟨fun h => (by rw [h] at hr; cases hr), fun j hj => ?_⟩
    rcases Nat.decEq j i with hji | hji
    rotate_left
    · subst hji
      exact hy.wpOp hi trivial ⟨fun h => hl (by rw [getD_set_ne true him] at h; exact h), H⟩
    · have hnext := H.2 j (ready_mono hj hji)
      obtain ⟨hju, oj, hoj, hall⟩ := mem_ready.1 hj
      have hno : ∀ e ∈ oj.after, Region.binds md e = true → e.on ≠ i := fun e he hb heq => by
        have h1 := hall e he hb
        have h0 := (mem_ready.1 hr).1
        rw [heq] at h1
        rcases Nat.lt_or_ge i l.size with h | h
        · simp [h] at h0 h1
          rw [h0] at h1; cases h1
        · simp [Array.getElem?_eq_none h] at h1
      have hput := wpOp_putIf hoj (hfree j oj hoj hji hju hno) (fun cs b => hsel i oi cs b hi) (fun cs b => hsel j oj cs b hoj) hQ hy hnext
      refine wpOp_mono (fun a' w' k => ?_) hput
      have hS' : (l.setIfInBounds j true).getD m true = false → S w' := fun h => k.2.1 (by rw [Array.setIfInBounds_comm _ _ (Ne.symm hji), getD_set_ne true him]; exact h)
      refine ⟨hS', wpAnyM_pure hi hsel hQ him f (l.setIfInBounds j true) a' w' hS' (fun k' ok hk hki hun hn => ?_) (ready_mono hr (Ne.symm hji)) k.1 ?_⟩
      · refine hfree k' ok hk hki ?_ hn
        by_cases hjk : j = k'
        · subst hjk; exact hju
        · rw [getD_set_ne true hjk] at hun; exact hun
      · rw [Array.setIfInBounds_comm _ _ hji]
        exact k.2.2
theorem wpAnyM_take0 (hsel : Region.noSelect ops = true) (hQ : ∀ c a a' w, Q (.panic c) a' w → Q (.panic c) a w) {fuel : Nat} {w : World} {l : Array Bool} {a : Act} (hS : l.getD m true = false → S w) (i : Nat)
    (hB : (Region.free md ops l i && ((Region.ready md ops l).contains i && (i != m))) = true)
    (h : HeldL P ops (fun _ => True) [i] (fun a' => wpAnyM P md ops Q S m fuel (l.setIfInBounds i true) a' w) a) : wpAnyM P md ops Q S m (fuel + 1) l a w := by
  simp only [Bool.and_eq_true, bne_iff_ne] at hB
  obtain ⟨o, v, hi, hy, h⟩ := h
  exact wpAnyM_pure hi (Region.noSelect_spec hsel) (fun c a' w' hh => hQ c _ _ w' hh) hB.2.2 _ _ _ _ hS (Region.free_spec hi hB.1) (by simpa using hB.2.1) hy h

end

end Go.Proofs.Ytkbhehnpgnilmaa

namespace Go.Proofs.Ytkbhehnpgnilmaa
open Go Go.RowKit
set_option linter.unusedSimpArgs false
set_option linter.unusedVariables false

/-- the keys that have been reckoned, and noughts -/
def keyC (s : List Int) (k : Nat) : List Int := (rowL (leafK s) k).flatten ++ List.replicate (256 - 32 * k) 0
theorem rowK_D {s : List Int} (hs : IsD s) (k : Nat) : ∀ x ∈ rowL (leafK s) k, IsD x := rowL_D fun i _ => isD_leafK hs i
theorem keyC_len {s : List Int} (hs : IsD s) {k : Nat} (hk : k ≤ 8) : (keyC s k).length = 256 := by
  unfold keyC
  rw [List.length_append, flat32 (rowK_D hs k), rowL_length, List.length_replicate]; omega
theorem keyC_zero (s : List Int) : keyC s 0 = List.replicate 256 0 := rfl
theorem keyC_all (s : List Int) : keyC s 8 = (rowM s 0).flatten := by
  unfold keyC
  rw [show 256 - 32 * 8 = 0 from rfl, List.replicate_zero, List.append_nil]
  rfl
theorem keyC_set {s : List Int} (hs : IsD s) {k : Nat} (hk : k < 8) : setFrom (ofK .u8 (keyC s k)) (k * 32) (ofK .u8 (leafK s k)) = ofK .u8 (keyC s (k + 1)) := by
  have hl := (isD_leafK hs k).1
  have hf := flat32 (rowK_D hs k)
  rw [rowL_length] at hf
  apply List.ext_getElem?
  intro i
  rw [setFrom_get _ _ _ (by rw [length_ofK, length_ofK, keyC_len hs (by omega), hl]; omega)]
  rw [length_ofK, hl]
  have e : keyC s (k + 1) = (rowL (leafK s) k).flatten ++ (leafK s k ++ List.replicate (256 - 32 * (k + 1)) 0) := by
    unfold keyC
    rw [rowL_succ, List.flatten_append, List.append_assoc]
    simp
  rw [e]
  unfold ofK
  rw [List.getElem?_map, List.getElem?_map, List.getElem?_map]
  congr 1
  by_cases h1 : i < 32 * k
  · rw [if_neg (by omega)]
    unfold keyC
    rw [List.getElem?_append_left (by rw [hf]; omega), List.getElem?_append_left (by rw [hf]; omega)]
  · by_cases h2 : i < 32 * k + 32
    · rw [if_pos (by omega), List.getElem?_append_right (by rw [hf]; omega), List.getElem?_append_left (by rw [hf, hl]; omega), hf, Nat.mul_comm k 32]
    · rw [if_neg (by omega)]
      unfold keyC
      rw [List.getElem?_append_right (by rw [hf]; omega), List.getElem?_append_right (by rw [hf]; omega), List.getElem?_append_right (by rw [hf, hl]; omega), hf, hl]
      rw [List.getElem?_replicate, List.getElem?_replicate]
      by_cases h3 : i < 256
      · rw [if_pos (by omega), if_pos (by omega)]
      · rw [if_neg (by omega), if_neg (by omega)]
def zerK : List Value := ofK .u8 (List.replicate 256 0)
theorem Try.zeroK8 : ∀ w, (zeroValue 94).run Try.prog w = .ok (.agg zerK.toArray) w := fun w => by kernel_rfl
theorem Try.infoK8 : (Try.prog.info? 94).map (·.size) = some 256 := by kernel_rfl
theorem infoK {x : List Int} (h : x.length = 256) : (Try.prog.info? 94).map (·.size) = some (ofK .u8 x).length := by rw [length_ofK, h]; exact Try.infoK8


set_option maxRecDepth 100000 in
set_option maxHeartbeats 4000000 in
theorem keys8_any (s : List Int) (w : World) (hs : IsD s) :
    Calls Try.prog 72 #[.agg (ofK .u8 s).toArray] w (fun e w' => e = .returned (.agg (ofK .u8 (rowM s 0).flatten).toArray) ∧ Below w.heap.size w w') := by
  have HSD := Lib.hid hs
  have HSI := Lib.hid (infoD hs)
  clear hs
  go_enter Try.func72, Try.ntmps72
  go_wp2_with (first
    | (with_reducible refine wpList_box_blk w rfl 23 (.tmp 0) rfl (ofK .u8 s) rfl ?_; intro w1 hb hbel hsz; have HB1 := Lib.hid (And.intro hb (And.intro hbel hsz)); clear hb hbel hsz)
    | ((with_reducible refine wpList_alloc_blk w1 rfl 94 rfl zerK Try.zeroK8 ?_); intro w2 hb hbel hsz; have HB2 := Lib.hid (show Blk w2 w.heap.size 23 (ofK .u8 s) ∧ Blk w2 w1.heap.size 94 zerK ∧ Below w.heap.size w w2 ∧ w2.heap.size = w1.heap.size + 1 from ⟨HB1.out.1.below hbel HB1.out.1.lt, hb, below_thn HB1.out.2.1 hbel (Nat.le_refl _), hsz⟩); clear hb hbel hsz)
    | ((with_reducible refine wpList_alloc_blk w2 rfl 94 rfl zerK Try.zeroK8 ?_); intro w3 hb hbel hsz; have HB3 := Lib.hid (show w3.rangeAt w.heap.size 0 (ofK .u8 s) ∧ Blk w3 w1.heap.size 94 zerK ∧ Blk w3 w2.heap.size 94 (ofK .u8 (keyC s 0)) ∧ Below w.heap.size w w3 from ⟨rangeW_blk (HB2.out.1.below hbel HB2.out.1.lt), HB2.out.2.1.below hbel HB2.out.2.1.lt, by rw [keyC_zero]; exact hb, below_thn HB2.out.2.2.1 hbel (Nat.le_refl _)⟩); clear hb hbel hsz))
  have HG := Lib.hid (show w.heap.size < w1.heap.size ∧ w1.heap.size < w2.heap.size from ⟨HB1.out.1.lt, HB2.out.2.1.lt⟩)
  clear HB1 HB2
  go_loopw [5] (fun c wr => ∃ k : Nat, k ≤ 8 ∧ c = .int .i64 k ∧ Hid (wr.rangeAt w.heap.size 0 (ofK .u8 s) ∧ Blk wr w1.heap.size 94 zerK ∧ Blk wr w2.heap.size 94 (ofK .u8 (keyC s k)) ∧ Below w.heap.size w wr)) (fun c _ => 8 - (intOf c).toNat)
  case atStart => exact ⟨0, Nat.zero_le _, rfl, HB3⟩
  case round =>
    obtain ⟨k, hk, rfl, HR⟩ := hrel
    by_cases hlt : k < 8
    · have hkz : (k : Int) < 8 := by omega
      have hk0 : (0 : Int) ≤ (k : Int) := by omega
      go_wp2_with (first
    | (with_reducible refine wpList_load_any rfl 23 (.tmp 1) rfl w.heap.size 0 rfl (ofK .u8 s) _ HR.out.1 Try.underlying23 rfl HSI.out ?_))
      refine (lseed_any s k wr HSD.out hk0 hkz).mono ?_
      rintro e w4 ⟨rfl, hb4⟩
      go_wp2_with fail
      have hx := key_any (leafS s k) w4 (isD_leafS HSD.out k)
      rw [show keyOf (leafS s k) = leafK s k from rfl] at hx
      refine Calls.mono hx ?_
      clear hx
      rintro e w5 ⟨rfl, hb5⟩
      have H5 := Lib.hid (show w5.rangeAt w.heap.size 0 (ofK .u8 s) ∧ Blk w5 w1.heap.size 94 zerK ∧ Blk w5 w2.heap.size 94 (ofK .u8 (keyC s k)) ∧ Below w.heap.size w w5 from ⟨rangeW_below (rangeW_below HR.out.1 hb4) hb5, (HR.out.2.1.below hb4 HR.out.2.1.lt).below hb5 (HR.out.2.1.below hb4 HR.out.2.1.lt).lt, (HR.out.2.2.1.below hb4 HR.out.2.2.1.lt).below hb5 (HR.out.2.2.1.below hb4 HR.out.2.2.1.lt).lt, below_thn (below_thn HR.out.2.2.2 hb4 (Nat.le_refl _)) hb5 (Nat.le_refl _)⟩)
      have HKD := Lib.hid (isD_leafK HSD.out k)
      have HKI := Lib.hid (infoD HKD.out)
      have HKL := Lib.hid (show k * 32 + (ofK .u8 (leafK s k)).length ≤ (ofK .u8 (keyC s k)).length by rw [length_ofK, length_ofK, HKD.out.1, keyC_len HSD.out (by omega)]; omega)
      clear hb4 hb5
      go_wp2_with (first
    | ((with_reducible refine wpList_store_part w5 rfl 23 (.tmp 13) (.tmp 12) rfl w2.heap.size (k * 32) 94 (ofK .u8 (keyC s k)) (ofK .u8 (leafK s k)) H5.out.2.2.1 ?_ rfl HKL.out HKI.out (one_ofK _ _) ?_); (focus (first | rfl | (simp; done))); intro w6 hb hc hs; have H6 := Lib.hid (show w6.rangeAt w.heap.size 0 (ofK .u8 s) ∧ Blk w6 w1.heap.size 94 zerK ∧ Blk w6 w2.heap.size 94 (ofK .u8 (keyC s (k + 1))) ∧ Below w.heap.size w w6 from ⟨rangeW_ch H5.out.1 hc (fun e => by have e : w.heap.size = w2.heap.size := e; have := HG.out; omega), H5.out.2.1.keep hc (fun e => by have e : w1.heap.size = w2.heap.size := e; have := HG.out; omega), by rw [keyC_set HSD.out hlt] at hb; exact hb, below_ch H5.out.2.2.2 hc (Nat.le_refl _) (fun j hj => by have e : j = w2.heap.size := hj; have := HG.out; omega)⟩); clear hb hc hs))
      go_roundw
      case rel => exact ⟨k + 1, by omega, by go_num, H6⟩
      case measure => simp [intOf]; omega
    · obtain rfl : k = 8 := by omega
      have HL := Lib.hid (show ((rowM s 0).flatten).length = 256 from by rw [← keyC_all]; exact keyC_len HSD.out (Nat.le_refl _))
      have HZ := Lib.hid (show Blk wr w2.heap.size 94 (ofK .u8 (rowM s 0).flatten) from by have h := HR.out.2.2.1; rw [keyC_all] at h; exact h)
      have HI := Lib.hid (infoK HL.out)
      have HLZ := Lib.hid (show (ofK .u8 (rowM s 0).flatten).length = zerK.length by unfold zerK; rw [length_ofK, length_ofK, HL.out, List.length_replicate])
      obtain ⟨Z, hZ⟩ : ∃ Z, (rowM s 0).flatten = Z := ⟨_, rfl⟩
      rw [hZ] at HL HZ HI HLZ
      have HZZ := Lib.hid hZ
      clear hZ
      go_wp2_with (first
    | (with_reducible refine wpList_load_any rfl 94 (.tmp 3) rfl w2.heap.size 0 rfl (ofK .u8 Z) _ (rangeW_blk HZ.out) Try.underlying94 rfl HI.out ?_)
    | ((with_reducible refine wpList_store_blk wr rfl 94 (.tmp 2) (.tmp 15) rfl w1.heap.size 94 zerK (ofK .u8 Z) HR.out.2.1 rfl rfl HLZ.out HI.out (one_ofK _ _) ?_); intro w7 hb hc hs; have H7 := Lib.hid (And.intro hb (below_ch HR.out.2.2.2 hc (Nat.le_refl _) (fun j hj => by have e : j = w1.heap.size := hj; have := HG.out; omega))); clear hb hc hs))
      exact bodyPost_ret (results_blk Try.results72 _ _ w1.heap.size _ _ rfl H7.out.1 _ Try.underlying94 rfl HI.out) rfl ⟨by rw [HZZ.out], H7.out.2⟩


/-- a block that holds eight digests -/
theorem SlD.of_blk {w : World} {g : Nat} {e : TypeId} {l : List (List Int)} (h : Blk w g e (ofK .u8 l.flatten)) (hD : ∀ x ∈ l, IsD x) (n : Nat) (hn : l.length = n) (h9 : n ≤ 1000) : SlD w (.slice (some ⟨g, 0, none⟩) n n) l := by
  subst hn
  refine ⟨_, _, rfl, Nat.le_refl _, by omega, fun _ => ⟨g, 0, rfl, fun k hk j v hv => ?_⟩⟩
  have hj : j < 32 := by have := (List.getElem?_eq_some_iff.1 hv).1; rwa [length_ofK, (hD _ (List.getElem_mem hk)).1] at this
  have := rangeW_blk h (k * 32 + j) v (by
    unfold ofK at hv ⊢
    rw [List.getElem?_map] at hv ⊢
    rw [flat_at hD k hk j hj]
    exact hv)
  rwa [show 0 + (k * 32 + j) = 0 + k * 32 + j by omega] at this
theorem row_len (s : List Int) : (rowM s 0).length = 8 ∧ (rowM s 1).length = 4 ∧ (rowM s 2).length = 2 ∧ (rowM s 3).length = 1 := by
  have h0 : (rowM s 0).length = 8 := rfl
  have h1 : (rowM s 1).length = 4 := by show (pairsM (rowM s 0)).length = 4; rw [pairs_length, h0]
  have h2 : (rowM s 2).length = 2 := by show (pairsM (rowM s 1)).length = 2; rw [pairs_length, h1]
  exact ⟨h0, h1, h2, by show (pairsM (rowM s 2)).length = 1; rw [pairs_length, h2]⟩
theorem pairs_row (s : List Int) (i n : Nat) (v : Value) (w : World) (hs : IsD s) (hn : (rowM s (i + 1)).length = n) (hl : (rowM s i).length ≤ 1000) (hv : SlD w v (rowM s i)) :
    Calls Try.prog 109 #[v] w (fun e w' => ∃ ao c, e = .returned (.slice ao n c) ∧ SlD w' (.slice ao n c) (rowM s (i + 1)) ∧ Below w.heap.size w w') := by
  subst hn
  refine (lpairs_any v (rowM s i) w hv (rowM_D hs i) hl).mono ?_
  rintro e w' ⟨ao, c, rfl, h1, h2⟩
  exact ⟨ao, c, rfl, SlD.of_owns h1 rfl (rowM_D hs (i + 1)), h2⟩
theorem root_get (s : List Int) : ∃ h, (rowM s 3)[0]'h = rootM s := by
  have h := (row_len s).2.2.2
  refine ⟨by omega, ?_⟩
  unfold rootM
  rw [List.getD_eq_getElem?_getD, List.getElem?_eq_getElem (by omega)]
  rfl


set_option maxRecDepth 100000 in
set_option maxHeartbeats 4000000 in
theorem root8_any (s : List Int) (w : World) (hs : IsD s) :
    Calls Try.prog 76 #[.agg (ofK .u8 (rowM s 0).flatten).toArray] w (fun e w' => e = .returned (.agg (ofK .u8 (rootM s)).toArray) ∧ Below w.heap.size w w') := by
  have HSD := Lib.hid hs
  have HK := Lib.hid (rowM_D hs 0)
  have HL := Lib.hid (row_len s)
  clear hs
  obtain ⟨h0, hrt⟩ := root_get s
  have HRT := Lib.hid hrt
  have HRD := Lib.hid (show IsD (rootM s) from by rw [← hrt]; exact rowM_D HSD.out 3 _ (List.getElem_mem h0))
  have HRI := Lib.hid (infoD HRD.out)
  have HRL := Lib.hid (lenD HRD.out isD_zer)
  clear hrt
  obtain ⟨Z, hZ⟩ : ∃ Z, (rowM s 0).flatten = Z := ⟨_, rfl⟩
  have HZ := Lib.hid hZ
  rw [hZ]
  clear hZ
  go_enter Try.func76, Try.ntmps76
  go_wp2_with (first
    | ((with_reducible refine wpList_box_blk w rfl 94 (.tmp 0) rfl (ofK .u8 Z) rfl ?_); intro w1 hb hbel hsz; have HB1 := Lib.hid (And.intro hb hbel); clear hb hbel hsz)
    | ((with_reducible refine wpList_alloc_blk w1 rfl 23 rfl (ofK .u8 zer32) Try.zeroId ?_); intro w2 hb hbel hsz; have H2 := Lib.hid (show SlD w2 (.slice (some ⟨w.heap.size, 0, none⟩) 8 8) (rowM s 0) ∧ Blk w2 w1.heap.size 23 (ofK .u8 zer32) ∧ Below w.heap.size w w2 from ⟨SlD.of_blk (by rw [HZ.out]; exact HB1.out.1.below hbel HB1.out.1.lt) HK.out 8 HL.out.1 (by omega), hb, below_thn HB1.out.2 hbel (Nat.le_refl _)⟩); clear hb hbel hsz))
  have HG := Lib.hid HB1.out.1.lt
  have HG1 := Lib.hid HB1.out.2.size
  clear HB1
  refine (pairs_row s 0 4 _ w2 HSD.out HL.out.2.1 (by rw [HL.out.1]; omega) H2.out.1).mono ?_
  rintro e w3 ⟨o1, c1, rfl, hs3, hb3⟩
  have H3 := Lib.hid (show SlD w3 (.slice o1 4 c1) (rowM s 1) ∧ Blk w3 w1.heap.size 23 (ofK .u8 zer32) ∧ Below w.heap.size w w3 from ⟨hs3, H2.out.2.1.below hb3 H2.out.2.1.lt, below_thn H2.out.2.2 hb3 (Nat.le_refl _)⟩)
  clear hs3 hb3 H2
  go_wp2_with fail
  refine (pairs_row s 1 2 _ w3 HSD.out HL.out.2.2.1 (by rw [HL.out.2.1]; omega) H3.out.1).mono ?_
  rintro e w4 ⟨o2, c2, rfl, hs4, hb4⟩
  have H4 := Lib.hid (show SlD w4 (.slice o2 2 c2) (rowM s 2) ∧ Blk w4 w1.heap.size 23 (ofK .u8 zer32) ∧ Below w.heap.size w w4 from ⟨hs4, H3.out.2.1.below hb4 H3.out.2.1.lt, below_thn H3.out.2.2 hb4 (Nat.le_refl _)⟩)
  clear hs4 hb4 H3
  go_wp2_with fail
  refine (pairs_row s 2 1 _ w4 HSD.out HL.out.2.2.2 (by rw [HL.out.2.2.1]; omega) H4.out.1).mono ?_
  rintro e w5 ⟨o3, c3, rfl, hs5, hb5⟩
  obtain ⟨g3, p3, ho3, hr3⟩ := SlD.spots hs5 (e := 0) (by rw [HL.out.2.2.2]; omega)
  subst ho3
  have H5 := Lib.hid (show w5.rangeAt g3 p3 (ofK .u8 (rootM s)) ∧ Blk w5 w1.heap.size 23 (ofK .u8 zer32) ∧ Below w.heap.size w w5 from ⟨by rw [HRT.out, Nat.zero_mul, Nat.add_zero] at hr3; exact hr3, H4.out.2.1.below hb5 H4.out.2.1.lt, below_thn H4.out.2.2 hb5 (Nat.le_refl _)⟩)
  clear hs5 hb5 H4 hr3
  clear HRT
  go_wp2_with (first
    | (with_reducible refine wpList_load_any rfl 23 (.tmp 7) rfl g3 p3 rfl (ofK .u8 (rootM s)) _ H5.out.1 Try.underlying23 rfl HRI.out ?_)
    | ((with_reducible refine wpList_store_blk w5 rfl 23 (.tmp 2) (.tmp 8) rfl w1.heap.size 23 (ofK .u8 zer32) (ofK .u8 (rootM s)) H5.out.2.1 rfl rfl HRL.out HRI.out (one_ofK _ _) ?_); intro w6 hb hc hs; have H6 := Lib.hid (And.intro hb (below_ch H5.out.2.2 hc (Nat.le_refl _) (fun j hj => by have e : j = w1.heap.size := hj; have := HG.out; have := HG1.out; omega))); clear hb hc hs))
  exact bodyPost_ret (results_blk Try.results76 _ _ w1.heap.size _ _ rfl H6.out.1 _ Try.underlying23 rfl HRI.out) rfl ⟨rfl, H6.out.2⟩


theorem run_buildSlice_three {P : Program} {t e : TypeId} {n : Nat} {zs : Array Value} (ht : P.underlying t = some (.slice e)) (hs : ∀ w, (sizeOf e).run P w = .ok n w) (hz : ∀ w, (zeroValue e).run P w = .ok (.agg zs) w) (hzs : zs.size = n) (hn0 : 0 < n) (hn : n ≤ 1000)
    (cs ds es : List Value) (hcs : cs.length = n) (hds : ds.length = n) (hes : es.length = n) (w : World) : (Instr.buildSlice t 3 #[(0, .agg cs.toArray), (1, .agg ds.toArray), (2, .agg es.toArray)]).run P w = .ok (.slice (some ⟨w.heap.size, 0, none⟩) 3 3) (w.alloc (.cells (cs ++ ds ++ es).toArray e)) := by
  have ca : (Value.agg cs.toArray).cells = cs.toArray := rfl
  have cb : (Value.agg ds.toArray).cells = ds.toArray := rfl
  have cc : (Value.agg es.toArray).cells = es.toArray := rfl
  have e1 : ∀ c : Array Value, c.size = 3 * n → (Instr.fill (fun i => some (i * n, n)) c [(0, .agg cs.toArray), (1, .agg ds.toArray), (2, .agg es.toArray)]) = some (cs ++ ds ++ es).toArray := by
    intro c hc
    rw [fill_one _ _ 0 0 (.agg cs.toArray) _ (by rw [ca]; simp [hcs]) (by rw [ca]; simp [hcs, hc]; omega), ca, fill_one _ _ 1 n (.agg ds.toArray) _ (by rw [cb]; simp [hds]) (by rw [cb]; simp [hcs, hds, hc]; omega), cb, fill_one _ _ 2 (2 * n) (.agg es.toArray) _ (by rw [cc]; simp [hes]) (by rw [cc]; simp [hcs, hds, hes, hc]; omega), cc]
    simp only [Instr.fill, List.size_toArray, hcs, hds, hes, List.take_zero, List.nil_append, Nat.zero_add, Option.some.injEq]
    congr 1
    have hcl : (c.toList.drop n).length = 2 * n := by rw [List.length_drop]; have : c.toList.length = 3 * n := by simpa using hc
                                                      omega
    obtain ⟨X, hX⟩ : ∃ X, c.toList.drop n = X := ⟨_, rfl⟩
    rw [hX] at hcl ⊢
    have hR : (List.drop (n + n) (cs ++ X)).length = n := by rw [List.length_drop, List.length_append, hcs, hcl]; omega
    rw [List.take_left' hcs, List.take_left' (by rw [List.length_append, hcs, hds]; omega), List.drop_of_length_le (by rw [List.length_append, List.length_append, hcs, hds, hR]; omega), List.append_nil]
  have h1 : ¬ n > 2 ^ 24 := by omega
  have h2 : ¬ n = 0 := by omega
  have h3 : ¬ 2 ^ 24 < 3 * n := by omega
  simp [Instr.buildSlice, run_underlying ht, hs, hz, hzs, Value.cells, Result.andThen, h1, h2, h3, e1, run_newRow']

/-- a row of three digests, made -/
theorem wpList_slice_id3 (w : World) {ops : Array Oper} {rest : List Oper} {o : Oper} {a : Act} {Q : Exit → Act → World → Prop} (hgd : o.guard = none) (x y z : Operand) (ho : o.op = .buildSlice 54 3 #[(0, x), (1, y), (2, z)]) (cs ds es : List Int) (hcs : IsD cs) (hds : IsD ds) (hes : IsD es)
    (hx : a.eval x = .agg (ofK .u8 cs).toArray) (hy : a.eval y = .agg (ofK .u8 ds).toArray) (hz : a.eval z = .agg (ofK .u8 es).toArray) (h : ∀ w', SlD w' (.slice (some ⟨w.heap.size, 0, none⟩) 3 3) [cs, ds, es] → Below w.heap.size w w' → w'.heap.size = w.heap.size + 1 → wpList Try.prog ops Q rest (a.put o.dst (.slice (some ⟨w.heap.size, 0, none⟩) 3 3)) w') : wpList Try.prog ops Q (o :: rest) a w := by
  refine wpList_plain hgd fun K' hK' => ?_
  have hrun : (execOp a.eval o).run Try.prog w = .ok (.value (.slice (some ⟨w.heap.size, 0, none⟩) 3 3)) (w.alloc (.cells (ofK .u8 cs ++ ofK .u8 ds ++ ofK .u8 es).toArray 23)) := by
    unfold execOp
    simp only [ho]
    rw [show (#[((0 : Nat), x), (1, y), (2, z)].map fun (i, x) => (i, a.eval x)) = #[(0, .agg (ofK .u8 cs).toArray), (1, .agg (ofK .u8 ds).toArray), (2, .agg (ofK .u8 es).toArray)] by simp [hx, hy, hz]]
    simp [run_buildSlice_three Try.underlying54 Try.sizeId Try.zeroId (by simp [ofK, zer32]) (by decide) (by decide) (ofK .u8 cs) (ofK .u8 ds) (ofK .u8 es) (by rw [length_ofK, hcs.1]) (by rw [length_ofK, hds.1]) (by rw [length_ofK, hes.1]) w, Result.andThen]
  unfold Oper.wp
  rw [hrun]
  refine hK' _ _ (h _ ?_ ((Below.refl _ _).alloc (Nat.le_refl _) _) (World.size_alloc _ _))
  have e : ofK .u8 cs ++ ofK .u8 ds ++ ofK .u8 es = ofK .u8 [cs, ds, es].flatten := by simp [ofK]
  rw [e]
  exact SlD.of_blk (Blk.new w _ _) (fun x hx => by simp at hx; rcases hx with rfl | rfl | rfl <;> assumption) 3 rfl (by omega)


set_option maxRecDepth 100000 in
set_option maxHeartbeats 16000000 in
theorem path8_any (s : List Int) (n : Nat) (w : World) (hs : IsD s) (hn : n < 8) :
    Calls Try.prog 74 #[.agg (ofK .u8 (rowM s 0).flatten).toArray, .int .i64 n] w (fun e w' => ∃ b, e = .returned (.slice (some ⟨b, 0, none⟩) 3 3) ∧ SlD w' (.slice (some ⟨b, 0, none⟩) 3 3) (pathM s n) ∧ w.heap.size ≤ b ∧ b < w'.heap.size ∧ Below w.heap.size w w') := by
  have HSD := Lib.hid hs
  have HK := Lib.hid (rowM_D hs 0)
  have HL := Lib.hid (row_len s)
  clear hs
  have HP := Lib.hid (show ∃ x y z, pathM s n = [x, y, z] ∧ IsD x ∧ IsD y ∧ IsD z ∧ (∀ h, (rowM s 0)[n ^^^ 1]'h = x) ∧ (∀ h, (rowM s 1)[n / 2 ^^^ 1]'h = y) ∧ (∀ h, (rowM s 2)[n / 4 ^^^ 1]'h = z) from by
    have b0 : n ^^^ 1 < 8 := by rcases (show n = 0 ∨ n = 1 ∨ n = 2 ∨ n = 3 ∨ n = 4 ∨ n = 5 ∨ n = 6 ∨ n = 7 by omega) with rfl | rfl | rfl | rfl | rfl | rfl | rfl | rfl <;> decide
    have b1 : n / 2 ^^^ 1 < 4 := by rcases (show n = 0 ∨ n = 1 ∨ n = 2 ∨ n = 3 ∨ n = 4 ∨ n = 5 ∨ n = 6 ∨ n = 7 by omega) with rfl | rfl | rfl | rfl | rfl | rfl | rfl | rfl <;> decide
    have b2 : n / 4 ^^^ 1 < 2 := by rcases (show n = 0 ∨ n = 1 ∨ n = 2 ∨ n = 3 ∨ n = 4 ∨ n = 5 ∨ n = 6 ∨ n = 7 by omega) with rfl | rfl | rfl | rfl | rfl | rfl | rfl | rfl <;> decide
    have g : ∀ (l : List (List Int)) (i : Nat) (h : i < l.length), l.getD i [] = l[i] := fun l i h => by rw [List.getD_eq_getElem?_getD, List.getElem?_eq_getElem h]; rfl
    have l0 := HL.out
    refine ⟨_, _, _, rfl, ?_, ?_, ?_, fun h => (g _ _ h).symm, fun h => (g _ _ h).symm, fun h => (g _ _ h).symm⟩
    · rw [g _ _ (by rw [l0.1]; exact b0)]; exact rowM_D HSD.out 0 _ (List.getElem_mem _)
    · rw [g _ _ (by rw [l0.2.1]; exact b1)]; exact rowM_D HSD.out 1 _ (List.getElem_mem _)
    · rw [g _ _ (by rw [l0.2.2.1]; exact b2)]; exact rowM_D HSD.out 2 _ (List.getElem_mem _))
  obtain ⟨x, y, z, hp, hx, hy, hz, e0, e1, e2⟩ := HP.out
  rw [hp]
  have HXD := Lib.hid hx
  have HYD := Lib.hid hy
  have HZD := Lib.hid hz
  have HXI := Lib.hid (infoD hx)
  have HYI := Lib.hid (infoD hy)
  have HZI := Lib.hid (infoD hz)
  have HE := Lib.hid (And.intro e0 (And.intro e1 e2))
  obtain ⟨Z, hZ⟩ : ∃ Z, (rowM s 0).flatten = Z := ⟨_, rfl⟩
  have HZ := Lib.hid hZ
  rw [hZ]
  clear hZ hp hx hy hz e0 e1 e2 HP
  go_enter Try.func74, Try.ntmps74
  go_wp2_with (first
    | ((with_reducible refine wpList_box_blk w rfl 94 (.tmp 0) rfl (ofK .u8 Z) rfl ?_); intro w2 hb hbel hsz; have H2 := Lib.hid (show SlD w2 (.slice (some ⟨w.heap.size, 0, none⟩) 8 8) (rowM s 0) ∧ Below w.heap.size w w2 from ⟨SlD.of_blk (by rw [HZ.out]; exact hb) HK.out 8 HL.out.1 (by omega), hbel⟩); clear hb hbel hsz))
  refine (pairs_row s 0 4 _ w2 HSD.out HL.out.2.1 (by rw [HL.out.1]; omega) H2.out.1).mono ?_
  rintro e w3 ⟨o1, c1, rfl, hs3, hb3⟩
  have H3 := Lib.hid (show SlD w3 (.slice o1 4 c1) (rowM s 1) ∧ SlD w3 (.slice (some ⟨w.heap.size, 0, none⟩) 8 8) (rowM s 0) ∧ Below w.heap.size w w3 from ⟨hs3, H2.out.1.below hb3, below_thn H2.out.2 hb3 (Nat.le_refl _)⟩)
  clear hs3 hb3 H2
  go_wp2_with fail
  refine (pairs_row s 1 2 _ w3 HSD.out HL.out.2.2.1 (by rw [HL.out.2.1]; omega) H3.out.1).mono ?_
  rintro e w4 ⟨o2, c2, rfl, hs4, hb4⟩
  have H4 := Lib.hid (show SlD w4 (.slice o2 2 c2) (rowM s 2) ∧ SlD w4 (.slice o1 4 c1) (rowM s 1) ∧ SlD w4 (.slice (some ⟨w.heap.size, 0, none⟩) 8 8) (rowM s 0) ∧ Below w.heap.size w w4 from ⟨hs4, H3.out.1.below hb4, H3.out.2.1.below hb4, below_thn H3.out.2.2 hb4 (Nat.le_refl _)⟩)
  clear hs4 hb4 H3
  go_wp2_with fail
  rcases (show n = 0 ∨ n = 1 ∨ n = 2 ∨ n = 3 ∨ n = 4 ∨ n = 5 ∨ n = 6 ∨ n = 7 by omega) with rfl | rfl | rfl | rfl | rfl | rfl | rfl | rfl
  · skip
    obtain ⟨g0, p0, ho0, r0⟩ := SlD.spots H4.out.2.2.1 (e := 1) (by rw [HL.out.1]; omega)
    obtain ⟨g1, p1, ho1, r1⟩ := SlD.spots H4.out.2.1 (e := 1) (by rw [HL.out.2.1]; omega)
    obtain ⟨g2, p2, ho2, r2⟩ := SlD.spots H4.out.1 (e := 1) (by rw [HL.out.2.2.1]; omega)
    simp only [Option.some.injEq, Addr.mk.injEq, and_true] at ho0
    obtain ⟨rfl, rfl⟩ := ho0
    subst ho1 ho2
    have HR := Lib.hid (show (fun w' => w'.rangeAt w.heap.size (32) (ofK .u8 x) ∧ w'.rangeAt g1 (p1 + 32) (ofK .u8 y) ∧ w'.rangeAt g2 (p2 + 32) (ofK .u8 z)) w4 from ⟨by have h := r0; rw [show (rowM s 0)[1]'(by rw [HL.out.1]; omega) = x from HE.out.1 _] at h; simpa using h, by have h := r1; rw [show (rowM s 1)[1]'(by rw [HL.out.2.1]; omega) = y from HE.out.2.1 _] at h; exact h, by have h := r2; rw [show (rowM s 2)[1]'(by rw [HL.out.2.2.1]; omega) = z from HE.out.2.2 _] at h; exact h⟩)
    clear r0 r1 r2
    have bx0 : bits BinOp.xor IntKind.i64 0 1 = 1 := by decide
    have bw0 : IntKind.i64.wrap 0 = 0 := by decide
    refine wp_region_takes (fun w' => w'.rangeAt w.heap.size (32) (ofK .u8 x) ∧ w'.rangeAt g1 (p1 + 32) (ofK .u8 y) ∧ w'.rangeAt g2 (p2 + 32) (ofK .u8 z)) [0, 1, 2, 3, 4, 5, 6, 7, 8, 9, 10, 11, 12, 13, 14, 15] 2 (by kernel_rfl) rfl (by kernel_rfl) (by kernel_rfl) (by exact HR.out) ?_
    iterate 16 (refine' HeldL.run ?_ ?_ ?_ ?_; rotate_left 2; (simp only [List.getElem?_toArray, List.getElem?_cons_zero, List.getElem?_cons_succ]; rfl); rfl; (rintro w' ⟨k0, k1, k2⟩; first | exact exec_load_mid rfl rfl k0 Try.underlying23 rfl HXI.out | exact exec_load_mid rfl rfl k1 Try.underlying23 rfl HYI.out | exact exec_load_mid rfl rfl k2 Try.underlying23 rfl HZI.out | (go_simp; with_reducible rfl)); simp only [Act.put, List.setIfInBounds_toArray, List.set_cons_zero, List.set_cons_succ])
    have HV := Lib.hid (show (fun w' => w'.rangeAt w.heap.size (32) (ofK .u8 x) ∧ w'.rangeAt g1 (p1 + 32) (ofK .u8 y) ∧ w'.rangeAt g2 (p2 + 32) (ofK .u8 z)) w4.drew ∧ Below w.heap.size w w4.drew from ⟨HR.out, below_thn H4.out.2.2.2 ((Sm.refl w4).drew.below _) (Nat.le_refl _)⟩)
    generalize w4.drew = v0 at HV ⊢
    clear HR H4
    refine' wpAnyH_one 16 (by kernel_rfl) ?_ ?_; rotate_left; (simp only [List.getElem?_toArray, List.getElem?_cons_zero, List.getElem?_cons_succ]; rfl)
    refine wpList_slice_id3 v0 rfl (.tmp 14) (.tmp 20) (.tmp 26) rfl x y z HXD.out HYD.out HZD.out rfl rfl rfl ?_
    intro v1 hsl hb hsz
    have HV1 := Lib.hid (show (fun w' => w'.rangeAt w.heap.size (32) (ofK .u8 x) ∧ w'.rangeAt g1 (p1 + 32) (ofK .u8 y) ∧ w'.rangeAt g2 (p2 + 32) (ofK .u8 z)) v1 ∧ SlD v1 (.slice (some ⟨v0.heap.size, 0, none⟩) 3 3) [x, y, z] ∧ v0.heap.size < v1.heap.size ∧ Below w.heap.size w v1 from ⟨⟨rangeW_below HV.out.1.1 hb, rangeW_below HV.out.1.2.1 hb, rangeW_below HV.out.1.2.2 hb⟩, hsl, by omega, below_thn HV.out.2 hb (Nat.le_refl _)⟩)
    have HSZ := Lib.hid HV.out.2.size
    clear hsl hb hsz
    simp only [Act.put, List.setIfInBounds_toArray, List.set_cons_zero, List.set_cons_succ]
    refine QK.normal ⟨HV1.out.1, ?_⟩
    refine' wpAnyH_one 17 (by kernel_rfl) ?_ ?_; rotate_left; (simp only [List.getElem?_toArray, List.getElem?_cons_zero, List.getElem?_cons_succ]; rfl)
    go_wp2_with fail
    refine QK.normal ⟨HV1.out.1, ?_⟩
    refine wpAnyH_done (by kernel_rfl) ?_ _
    refine NoPanic.normal ?_
    go_wp2_with fail
    go_ret
    exact ⟨_, rfl, HV1.out.2.1, HSZ.out, HV1.out.2.2.1, HV1.out.2.2.2⟩
  · skip
    obtain ⟨g0, p0, ho0, r0⟩ := SlD.spots H4.out.2.2.1 (e := 0) (by rw [HL.out.1]; omega)
    obtain ⟨g1, p1, ho1, r1⟩ := SlD.spots H4.out.2.1 (e := 1) (by rw [HL.out.2.1]; omega)
    obtain ⟨g2, p2, ho2, r2⟩ := SlD.spots H4.out.1 (e := 1) (by rw [HL.out.2.2.1]; omega)
    simp only [Option.some.injEq, Addr.mk.injEq, and_true] at ho0
    obtain ⟨rfl, rfl⟩ := ho0
    subst ho1 ho2
    have HR := Lib.hid (show (fun w' => w'.rangeAt w.heap.size (0) (ofK .u8 x) ∧ w'.rangeAt g1 (p1 + 32) (ofK .u8 y) ∧ w'.rangeAt g2 (p2 + 32) (ofK .u8 z)) w4 from ⟨by have h := r0; rw [show (rowM s 0)[0]'(by rw [HL.out.1]; omega) = x from HE.out.1 _] at h; simpa using h, by have h := r1; rw [show (rowM s 1)[1]'(by rw [HL.out.2.1]; omega) = y from HE.out.2.1 _] at h; exact h, by have h := r2; rw [show (rowM s 2)[1]'(by rw [HL.out.2.2.1]; omega) = z from HE.out.2.2 _] at h; exact h⟩)
    clear r0 r1 r2
    have bx0 : bits BinOp.xor IntKind.i64 0 1 = 1 := by decide
    have bx1 : bits BinOp.xor IntKind.i64 1 1 = 0 := by decide
    have bw0 : IntKind.i64.wrap 0 = 0 := by decide
    refine wp_region_takes (fun w' => w'.rangeAt w.heap.size (0) (ofK .u8 x) ∧ w'.rangeAt g1 (p1 + 32) (ofK .u8 y) ∧ w'.rangeAt g2 (p2 + 32) (ofK .u8 z)) [0, 1, 2, 3, 4, 5, 6, 7, 8, 9, 10, 11, 12, 13, 14, 15] 2 (by kernel_rfl) rfl (by kernel_rfl) (by kernel_rfl) (by exact HR.out) ?_
    iterate 16 (refine' HeldL.run ?_ ?_ ?_ ?_; rotate_left 2; (simp only [List.getElem?_toArray, List.getElem?_cons_zero, List.getElem?_cons_succ]; rfl); rfl; (rintro w' ⟨k0, k1, k2⟩; first | exact exec_load_mid rfl rfl k0 Try.underlying23 rfl HXI.out | exact exec_load_mid rfl rfl k1 Try.underlying23 rfl HYI.out | exact exec_load_mid rfl rfl k2 Try.underlying23 rfl HZI.out | (go_simp; with_reducible rfl)); simp only [Act.put, List.setIfInBounds_toArray, List.set_cons_zero, List.set_cons_succ])
    have HV := Lib.hid (show (fun w' => w'.rangeAt w.heap.size (0) (ofK .u8 x) ∧ w'.rangeAt g1 (p1 + 32) (ofK .u8 y) ∧ w'.rangeAt g2 (p2 + 32) (ofK .u8 z)) w4.drew ∧ Below w.heap.size w w4.drew from ⟨HR.out, below_thn H4.out.2.2.2 ((Sm.refl w4).drew.below _) (Nat.le_refl _)⟩)
    generalize w4.drew = v0 at HV ⊢
    clear HR H4
    refine' wpAnyH_one 16 (by kernel_rfl) ?_ ?_; rotate_left; (simp only [List.getElem?_toArray, List.getElem?_cons_zero, List.getElem?_cons_succ]; rfl)
    refine wpList_slice_id3 v0 rfl (.tmp 14) (.tmp 20) (.tmp 26) rfl x y z HXD.out HYD.out HZD.out rfl rfl rfl ?_
    intro v1 hsl hb hsz
    have HV1 := Lib.hid (show (fun w' => w'.rangeAt w.heap.size (0) (ofK .u8 x) ∧ w'.rangeAt g1 (p1 + 32) (ofK .u8 y) ∧ w'.rangeAt g2 (p2 + 32) (ofK .u8 z)) v1 ∧ SlD v1 (.slice (some ⟨v0.heap.size, 0, none⟩) 3 3) [x, y, z] ∧ v0.heap.size < v1.heap.size ∧ Below w.heap.size w v1 from ⟨⟨rangeW_below HV.out.1.1 hb, rangeW_below HV.out.1.2.1 hb, rangeW_below HV.out.1.2.2 hb⟩, hsl, by omega, below_thn HV.out.2 hb (Nat.le_refl _)⟩)
    have HSZ := Lib.hid HV.out.2.size
    clear hsl hb hsz
    simp only [Act.put, List.setIfInBounds_toArray, List.set_cons_zero, List.set_cons_succ]
    refine QK.normal ⟨HV1.out.1, ?_⟩
    refine' wpAnyH_one 17 (by kernel_rfl) ?_ ?_; rotate_left; (simp only [List.getElem?_toArray, List.getElem?_cons_zero, List.getElem?_cons_succ]; rfl)
    go_wp2_with fail
    refine QK.normal ⟨HV1.out.1, ?_⟩
    refine wpAnyH_done (by kernel_rfl) ?_ _
    refine NoPanic.normal ?_
    go_wp2_with fail
    go_ret
    exact ⟨_, rfl, HV1.out.2.1, HSZ.out, HV1.out.2.2.1, HV1.out.2.2.2⟩
  · skip
    obtain ⟨g0, p0, ho0, r0⟩ := SlD.spots H4.out.2.2.1 (e := 3) (by rw [HL.out.1]; omega)
    obtain ⟨g1, p1, ho1, r1⟩ := SlD.spots H4.out.2.1 (e := 0) (by rw [HL.out.2.1]; omega)
    obtain ⟨g2, p2, ho2, r2⟩ := SlD.spots H4.out.1 (e := 1) (by rw [HL.out.2.2.1]; omega)
    simp only [Option.some.injEq, Addr.mk.injEq, and_true] at ho0
    obtain ⟨rfl, rfl⟩ := ho0
    subst ho1 ho2
    have HR := Lib.hid (show (fun w' => w'.rangeAt w.heap.size (96) (ofK .u8 x) ∧ w'.rangeAt g1 (p1 + 0) (ofK .u8 y) ∧ w'.rangeAt g2 (p2 + 32) (ofK .u8 z)) w4 from ⟨by have h := r0; rw [show (rowM s 0)[3]'(by rw [HL.out.1]; omega) = x from HE.out.1 _] at h; simpa using h, by have h := r1; rw [show (rowM s 1)[0]'(by rw [HL.out.2.1]; omega) = y from HE.out.2.1 _] at h; exact h, by have h := r2; rw [show (rowM s 2)[1]'(by rw [HL.out.2.2.1]; omega) = z from HE.out.2.2 _] at h; exact h⟩)
    clear r0 r1 r2
    have bx0 : bits BinOp.xor IntKind.i64 0 1 = 1 := by decide
    have bx1 : bits BinOp.xor IntKind.i64 1 1 = 0 := by decide
    have bx2 : bits BinOp.xor IntKind.i64 2 1 = 3 := by decide
    have bw0 : IntKind.i64.wrap 0 = 0 := by decide
    have bw1 : IntKind.i64.wrap 1 = 1 := by decide
    refine wp_region_takes (fun w' => w'.rangeAt w.heap.size (96) (ofK .u8 x) ∧ w'.rangeAt g1 (p1 + 0) (ofK .u8 y) ∧ w'.rangeAt g2 (p2 + 32) (ofK .u8 z)) [0, 1, 2, 3, 4, 5, 6, 7, 8, 9, 10, 11, 12, 13, 14, 15] 2 (by kernel_rfl) rfl (by kernel_rfl) (by kernel_rfl) (by exact HR.out) ?_
    iterate 16 (refine' HeldL.run ?_ ?_ ?_ ?_; rotate_left 2; (simp only [List.getElem?_toArray, List.getElem?_cons_zero, List.getElem?_cons_succ]; rfl); rfl; (rintro w' ⟨k0, k1, k2⟩; first | exact exec_load_mid rfl rfl k0 Try.underlying23 rfl HXI.out | exact exec_load_mid rfl rfl k1 Try.underlying23 rfl HYI.out | exact exec_load_mid rfl rfl k2 Try.underlying23 rfl HZI.out | (go_simp; with_reducible rfl)); simp only [Act.put, List.setIfInBounds_toArray, List.set_cons_zero, List.set_cons_succ])
    have HV := Lib.hid (show (fun w' => w'.rangeAt w.heap.size (96) (ofK .u8 x) ∧ w'.rangeAt g1 (p1 + 0) (ofK .u8 y) ∧ w'.rangeAt g2 (p2 + 32) (ofK .u8 z)) w4.drew ∧ Below w.heap.size w w4.drew from ⟨HR.out, below_thn H4.out.2.2.2 ((Sm.refl w4).drew.below _) (Nat.le_refl _)⟩)
    generalize w4.drew = v0 at HV ⊢
    clear HR H4
    refine' wpAnyH_one 16 (by kernel_rfl) ?_ ?_; rotate_left; (simp only [List.getElem?_toArray, List.getElem?_cons_zero, List.getElem?_cons_succ]; rfl)
    refine wpList_slice_id3 v0 rfl (.tmp 14) (.tmp 20) (.tmp 26) rfl x y z HXD.out HYD.out HZD.out rfl rfl rfl ?_
    intro v1 hsl hb hsz
    have HV1 := Lib.hid (show (fun w' => w'.rangeAt w.heap.size (96) (ofK .u8 x) ∧ w'.rangeAt g1 (p1 + 0) (ofK .u8 y) ∧ w'.rangeAt g2 (p2 + 32) (ofK .u8 z)) v1 ∧ SlD v1 (.slice (some ⟨v0.heap.size, 0, none⟩) 3 3) [x, y, z] ∧ v0.heap.size < v1.heap.size ∧ Below w.heap.size w v1 from ⟨⟨rangeW_below HV.out.1.1 hb, rangeW_below HV.out.1.2.1 hb, rangeW_below HV.out.1.2.2 hb⟩, hsl, by omega, below_thn HV.out.2 hb (Nat.le_refl _)⟩)
    have HSZ := Lib.hid HV.out.2.size
    clear hsl hb hsz
    simp only [Act.put, List.setIfInBounds_toArray, List.set_cons_zero, List.set_cons_succ]
    refine QK.normal ⟨HV1.out.1, ?_⟩
    refine' wpAnyH_one 17 (by kernel_rfl) ?_ ?_; rotate_left; (simp only [List.getElem?_toArray, List.getElem?_cons_zero, List.getElem?_cons_succ]; rfl)
    go_wp2_with fail
    refine QK.normal ⟨HV1.out.1, ?_⟩
    refine wpAnyH_done (by kernel_rfl) ?_ _
    refine NoPanic.normal ?_
    go_wp2_with fail
    go_ret
    exact ⟨_, rfl, HV1.out.2.1, HSZ.out, HV1.out.2.2.1, HV1.out.2.2.2⟩
  · skip
    obtain ⟨g0, p0, ho0, r0⟩ := SlD.spots H4.out.2.2.1 (e := 2) (by rw [HL.out.1]; omega)
    obtain ⟨g1, p1, ho1, r1⟩ := SlD.spots H4.out.2.1 (e := 0) (by rw [HL.out.2.1]; omega)
    obtain ⟨g2, p2, ho2, r2⟩ := SlD.spots H4.out.1 (e := 1) (by rw [HL.out.2.2.1]; omega)
    simp only [Option.some.injEq, Addr.mk.injEq, and_true] at ho0
    obtain ⟨rfl, rfl⟩ := ho0
    subst ho1 ho2
    have HR := Lib.hid (show (fun w' => w'.rangeAt w.heap.size (64) (ofK .u8 x) ∧ w'.rangeAt g1 (p1 + 0) (ofK .u8 y) ∧ w'.rangeAt g2 (p2 + 32) (ofK .u8 z)) w4 from ⟨by have h := r0; rw [show (rowM s 0)[2]'(by rw [HL.out.1]; omega) = x from HE.out.1 _] at h; simpa using h, by have h := r1; rw [show (rowM s 1)[0]'(by rw [HL.out.2.1]; omega) = y from HE.out.2.1 _] at h; exact h, by have h := r2; rw [show (rowM s 2)[1]'(by rw [HL.out.2.2.1]; omega) = z from HE.out.2.2 _] at h; exact h⟩)
    clear r0 r1 r2
    have bx0 : bits BinOp.xor IntKind.i64 0 1 = 1 := by decide
    have bx1 : bits BinOp.xor IntKind.i64 1 1 = 0 := by decide
    have bx2 : bits BinOp.xor IntKind.i64 3 1 = 2 := by decide
    have bw0 : IntKind.i64.wrap 0 = 0 := by decide
    have bw1 : IntKind.i64.wrap 1 = 1 := by decide
    refine wp_region_takes (fun w' => w'.rangeAt w.heap.size (64) (ofK .u8 x) ∧ w'.rangeAt g1 (p1 + 0) (ofK .u8 y) ∧ w'.rangeAt g2 (p2 + 32) (ofK .u8 z)) [0, 1, 2, 3, 4, 5, 6, 7, 8, 9, 10, 11, 12, 13, 14, 15] 2 (by kernel_rfl) rfl (by kernel_rfl) (by kernel_rfl) (by exact HR.out) ?_
    iterate 16 (refine' HeldL.run ?_ ?_ ?_ ?_; rotate_left 2; (simp only [List.getElem?_toArray, List.getElem?_cons_zero, List.getElem?_cons_succ]; rfl); rfl; (rintro w' ⟨k0, k1, k2⟩; first | exact exec_load_mid rfl rfl k0 Try.underlying23 rfl HXI.out | exact exec_load_mid rfl rfl k1 Try.underlying23 rfl HYI.out | exact exec_load_mid rfl rfl k2 Try.underlying23 rfl HZI.out | (go_simp; with_reducible rfl)); simp only [Act.put, List.setIfInBounds_toArray, List.set_cons_zero, List.set_cons_succ])
    have HV := Lib.hid (show (fun w' => w'.rangeAt w.heap.size (64) (ofK .u8 x) ∧ w'.rangeAt g1 (p1 + 0) (ofK .u8 y) ∧ w'.rangeAt g2 (p2 + 32) (ofK .u8 z)) w4.drew ∧ Below w.heap.size w w4.drew from ⟨HR.out, below_thn H4.out.2.2.2 ((Sm.refl w4).drew.below _) (Nat.le_refl _)⟩)
    generalize w4.drew = v0 at HV ⊢
    clear HR H4
    refine' wpAnyH_one 16 (by kernel_rfl) ?_ ?_; rotate_left; (simp only [List.getElem?_toArray, List.getElem?_cons_zero, List.getElem?_cons_succ]; rfl)
    refine wpList_slice_id3 v0 rfl (.tmp 14) (.tmp 20) (.tmp 26) rfl x y z HXD.out HYD.out HZD.out rfl rfl rfl ?_
    intro v1 hsl hb hsz
    have HV1 := Lib.hid (show (fun w' => w'.rangeAt w.heap.size (64) (ofK .u8 x) ∧ w'.rangeAt g1 (p1 + 0) (ofK .u8 y) ∧ w'.rangeAt g2 (p2 + 32) (ofK .u8 z)) v1 ∧ SlD v1 (.slice (some ⟨v0.heap.size, 0, none⟩) 3 3) [x, y, z] ∧ v0.heap.size < v1.heap.size ∧ Below w.heap.size w v1 from ⟨⟨rangeW_below HV.out.1.1 hb, rangeW_below HV.out.1.2.1 hb, rangeW_below HV.out.1.2.2 hb⟩, hsl, by omega, below_thn HV.out.2 hb (Nat.le_refl _)⟩)
    have HSZ := Lib.hid HV.out.2.size
    clear hsl hb hsz
    simp only [Act.put, List.setIfInBounds_toArray, List.set_cons_zero, List.set_cons_succ]
    refine QK.normal ⟨HV1.out.1, ?_⟩
    refine' wpAnyH_one 17 (by kernel_rfl) ?_ ?_; rotate_left; (simp only [List.getElem?_toArray, List.getElem?_cons_zero, List.getElem?_cons_succ]; rfl)
    go_wp2_with fail
    refine QK.normal ⟨HV1.out.1, ?_⟩
    refine wpAnyH_done (by kernel_rfl) ?_ _
    refine NoPanic.normal ?_
    go_wp2_with fail
    go_ret
    exact ⟨_, rfl, HV1.out.2.1, HSZ.out, HV1.out.2.2.1, HV1.out.2.2.2⟩
  · skip
    obtain ⟨g0, p0, ho0, r0⟩ := SlD.spots H4.out.2.2.1 (e := 5) (by rw [HL.out.1]; omega)
    obtain ⟨g1, p1, ho1, r1⟩ := SlD.spots H4.out.2.1 (e := 3) (by rw [HL.out.2.1]; omega)
    obtain ⟨g2, p2, ho2, r2⟩ := SlD.spots H4.out.1 (e := 0) (by rw [HL.out.2.2.1]; omega)
    simp only [Option.some.injEq, Addr.mk.injEq, and_true] at ho0
    obtain ⟨rfl, rfl⟩ := ho0
    subst ho1 ho2
    have HR := Lib.hid (show (fun w' => w'.rangeAt w.heap.size (160) (ofK .u8 x) ∧ w'.rangeAt g1 (p1 + 96) (ofK .u8 y) ∧ w'.rangeAt g2 (p2 + 0) (ofK .u8 z)) w4 from ⟨by have h := r0; rw [show (rowM s 0)[5]'(by rw [HL.out.1]; omega) = x from HE.out.1 _] at h; simpa using h, by have h := r1; rw [show (rowM s 1)[3]'(by rw [HL.out.2.1]; omega) = y from HE.out.2.1 _] at h; exact h, by have h := r2; rw [show (rowM s 2)[0]'(by rw [HL.out.2.2.1]; omega) = z from HE.out.2.2 _] at h; exact h⟩)
    clear r0 r1 r2
    have bx0 : bits BinOp.xor IntKind.i64 1 1 = 0 := by decide
    have bx1 : bits BinOp.xor IntKind.i64 2 1 = 3 := by decide
    have bx2 : bits BinOp.xor IntKind.i64 4 1 = 5 := by decide
    have bw0 : IntKind.i64.wrap 1 = 1 := by decide
    have bw1 : IntKind.i64.wrap 2 = 2 := by decide
    refine wp_region_takes (fun w' => w'.rangeAt w.heap.size (160) (ofK .u8 x) ∧ w'.rangeAt g1 (p1 + 96) (ofK .u8 y) ∧ w'.rangeAt g2 (p2 + 0) (ofK .u8 z)) [0, 1, 2, 3, 4, 5, 6, 7, 8, 9, 10, 11, 12, 13, 14, 15] 2 (by kernel_rfl) rfl (by kernel_rfl) (by kernel_rfl) (by exact HR.out) ?_
    iterate 16 (refine' HeldL.run ?_ ?_ ?_ ?_; rotate_left 2; (simp only [List.getElem?_toArray, List.getElem?_cons_zero, List.getElem?_cons_succ]; rfl); rfl; (rintro w' ⟨k0, k1, k2⟩; first | exact exec_load_mid rfl rfl k0 Try.underlying23 rfl HXI.out | exact exec_load_mid rfl rfl k1 Try.underlying23 rfl HYI.out | exact exec_load_mid rfl rfl k2 Try.underlying23 rfl HZI.out | (go_simp; with_reducible rfl)); simp only [Act.put, List.setIfInBounds_toArray, List.set_cons_zero, List.set_cons_succ])
    have HV := Lib.hid (show (fun w' => w'.rangeAt w.heap.size (160) (ofK .u8 x) ∧ w'.rangeAt g1 (p1 + 96) (ofK .u8 y) ∧ w'.rangeAt g2 (p2 + 0) (ofK .u8 z)) w4.drew ∧ Below w.heap.size w w4.drew from ⟨HR.out, below_thn H4.out.2.2.2 ((Sm.refl w4).drew.below _) (Nat.le_refl _)⟩)
    generalize w4.drew = v0 at HV ⊢
    clear HR H4
    refine' wpAnyH_one 16 (by kernel_rfl) ?_ ?_; rotate_left; (simp only [List.getElem?_toArray, List.getElem?_cons_zero, List.getElem?_cons_succ]; rfl)
    refine wpList_slice_id3 v0 rfl (.tmp 14) (.tmp 20) (.tmp 26) rfl x y z HXD.out HYD.out HZD.out rfl rfl rfl ?_
    intro v1 hsl hb hsz
    have HV1 := Lib.hid (show (fun w' => w'.rangeAt w.heap.size (160) (ofK .u8 x) ∧ w'.rangeAt g1 (p1 + 96) (ofK .u8 y) ∧ w'.rangeAt g2 (p2 + 0) (ofK .u8 z)) v1 ∧ SlD v1 (.slice (some ⟨v0.heap.size, 0, none⟩) 3 3) [x, y, z] ∧ v0.heap.size < v1.heap.size ∧ Below w.heap.size w v1 from ⟨⟨rangeW_below HV.out.1.1 hb, rangeW_below HV.out.1.2.1 hb, rangeW_below HV.out.1.2.2 hb⟩, hsl, by omega, below_thn HV.out.2 hb (Nat.le_refl _)⟩)
    have HSZ := Lib.hid HV.out.2.size
    clear hsl hb hsz
    simp only [Act.put, List.setIfInBounds_toArray, List.set_cons_zero, List.set_cons_succ]
    refine QK.normal ⟨HV1.out.1, ?_⟩
    refine' wpAnyH_one 17 (by kernel_rfl) ?_ ?_; rotate_left; (simp only [List.getElem?_toArray, List.getElem?_cons_zero, List.getElem?_cons_succ]; rfl)
    go_wp2_with fail
    refine QK.normal ⟨HV1.out.1, ?_⟩
    refine wpAnyH_done (by kernel_rfl) ?_ _
    refine NoPanic.normal ?_
    go_wp2_with fail
    go_ret
    exact ⟨_, rfl, HV1.out.2.1, HSZ.out, HV1.out.2.2.1, HV1.out.2.2.2⟩
  · skip
    obtain ⟨g0, p0, ho0, r0⟩ := SlD.spots H4.out.2.2.1 (e := 4) (by rw [HL.out.1]; omega)
    obtain ⟨g1, p1, ho1, r1⟩ := SlD.spots H4.out.2.1 (e := 3) (by rw [HL.out.2.1]; omega)
    obtain ⟨g2, p2, ho2, r2⟩ := SlD.spots H4.out.1 (e := 0) (by rw [HL.out.2.2.1]; omega)
    simp only [Option.some.injEq, Addr.mk.injEq, and_true] at ho0
    obtain ⟨rfl, rfl⟩ := ho0
    subst ho1 ho2
    have HR := Lib.hid (show (fun w' => w'.rangeAt w.heap.size (128) (ofK .u8 x) ∧ w'.rangeAt g1 (p1 + 96) (ofK .u8 y) ∧ w'.rangeAt g2 (p2 + 0) (ofK .u8 z)) w4 from ⟨by have h := r0; rw [show (rowM s 0)[4]'(by rw [HL.out.1]; omega) = x from HE.out.1 _] at h; simpa using h, by have h := r1; rw [show (rowM s 1)[3]'(by rw [HL.out.2.1]; omega) = y from HE.out.2.1 _] at h; exact h, by have h := r2; rw [show (rowM s 2)[0]'(by rw [HL.out.2.2.1]; omega) = z from HE.out.2.2 _] at h; exact h⟩)
    clear r0 r1 r2
    have bx0 : bits BinOp.xor IntKind.i64 1 1 = 0 := by decide
    have bx1 : bits BinOp.xor IntKind.i64 2 1 = 3 := by decide
    have bx2 : bits BinOp.xor IntKind.i64 5 1 = 4 := by decide
    have bw0 : IntKind.i64.wrap 1 = 1 := by decide
    have bw1 : IntKind.i64.wrap 2 = 2 := by decide
    refine wp_region_takes (fun w' => w'.rangeAt w.heap.size (128) (ofK .u8 x) ∧ w'.rangeAt g1 (p1 + 96) (ofK .u8 y) ∧ w'.rangeAt g2 (p2 + 0) (ofK .u8 z)) [0, 1, 2, 3, 4, 5, 6, 7, 8, 9, 10, 11, 12, 13, 14, 15] 2 (by kernel_rfl) rfl (by kernel_rfl) (by kernel_rfl) (by exact HR.out) ?_
    iterate 16 (refine' HeldL.run ?_ ?_ ?_ ?_; rotate_left 2; (simp only [List.getElem?_toArray, List.getElem?_cons_zero, List.getElem?_cons_succ]; rfl); rfl; (rintro w' ⟨k0, k1, k2⟩; first | exact exec_load_mid rfl rfl k0 Try.underlying23 rfl HXI.out | exact exec_load_mid rfl rfl k1 Try.underlying23 rfl HYI.out | exact exec_load_mid rfl rfl k2 Try.underlying23 rfl HZI.out | (go_simp; with_reducible rfl)); simp only [Act.put, List.setIfInBounds_toArray, List.set_cons_zero, List.set_cons_succ])
    have HV := Lib.hid (show (fun w' => w'.rangeAt w.heap.size (128) (ofK .u8 x) ∧ w'.rangeAt g1 (p1 + 96) (ofK .u8 y) ∧ w'.rangeAt g2 (p2 + 0) (ofK .u8 z)) w4.drew ∧ Below w.heap.size w w4.drew from ⟨HR.out, below_thn H4.out.2.2.2 ((Sm.refl w4).drew.below _) (Nat.le_refl _)⟩)
    generalize w4.drew = v0 at HV ⊢
    clear HR H4
    refine' wpAnyH_one 16 (by kernel_rfl) ?_ ?_; rotate_left; (simp only [List.getElem?_toArray, List.getElem?_cons_zero, List.getElem?_cons_succ]; rfl)
    refine wpList_slice_id3 v0 rfl (.tmp 14) (.tmp 20) (.tmp 26) rfl x y z HXD.out HYD.out HZD.out rfl rfl rfl ?_
    intro v1 hsl hb hsz
    have HV1 := Lib.hid (show (fun w' => w'.rangeAt w.heap.size (128) (ofK .u8 x) ∧ w'.rangeAt g1 (p1 + 96) (ofK .u8 y) ∧ w'.rangeAt g2 (p2 + 0) (ofK .u8 z)) v1 ∧ SlD v1 (.slice (some ⟨v0.heap.size, 0, none⟩) 3 3) [x, y, z] ∧ v0.heap.size < v1.heap.size ∧ Below w.heap.size w v1 from ⟨⟨rangeW_below HV.out.1.1 hb, rangeW_below HV.out.1.2.1 hb, rangeW_below HV.out.1.2.2 hb⟩, hsl, by omega, below_thn HV.out.2 hb (Nat.le_refl _)⟩)
    have HSZ := Lib.hid HV.out.2.size
    clear hsl hb hsz
    simp only [Act.put, List.setIfInBounds_toArray, List.set_cons_zero, List.set_cons_succ]
    refine QK.normal ⟨HV1.out.1, ?_⟩
    refine' wpAnyH_one 17 (by kernel_rfl) ?_ ?_; rotate_left; (simp only [List.getElem?_toArray, List.getElem?_cons_zero, List.getElem?_cons_succ]; rfl)
    go_wp2_with fail
    refine QK.normal ⟨HV1.out.1, ?_⟩
    refine wpAnyH_done (by kernel_rfl) ?_ _
    refine NoPanic.normal ?_
    go_wp2_with fail
    go_ret
    exact ⟨_, rfl, HV1.out.2.1, HSZ.out, HV1.out.2.2.1, HV1.out.2.2.2⟩
  · skip
    obtain ⟨g0, p0, ho0, r0⟩ := SlD.spots H4.out.2.2.1 (e := 7) (by rw [HL.out.1]; omega)
    obtain ⟨g1, p1, ho1, r1⟩ := SlD.spots H4.out.2.1 (e := 2) (by rw [HL.out.2.1]; omega)
    obtain ⟨g2, p2, ho2, r2⟩ := SlD.spots H4.out.1 (e := 0) (by rw [HL.out.2.2.1]; omega)
    simp only [Option.some.injEq, Addr.mk.injEq, and_true] at ho0
    obtain ⟨rfl, rfl⟩ := ho0
    subst ho1 ho2
    have HR := Lib.hid (show (fun w' => w'.rangeAt w.heap.size (224) (ofK .u8 x) ∧ w'.rangeAt g1 (p1 + 64) (ofK .u8 y) ∧ w'.rangeAt g2 (p2 + 0) (ofK .u8 z)) w4 from ⟨by have h := r0; rw [show (rowM s 0)[7]'(by rw [HL.out.1]; omega) = x from HE.out.1 _] at h; simpa using h, by have h := r1; rw [show (rowM s 1)[2]'(by rw [HL.out.2.1]; omega) = y from HE.out.2.1 _] at h; exact h, by have h := r2; rw [show (rowM s 2)[0]'(by rw [HL.out.2.2.1]; omega) = z from HE.out.2.2 _] at h; exact h⟩)
    clear r0 r1 r2
    have bx0 : bits BinOp.xor IntKind.i64 1 1 = 0 := by decide
    have bx1 : bits BinOp.xor IntKind.i64 3 1 = 2 := by decide
    have bx2 : bits BinOp.xor IntKind.i64 6 1 = 7 := by decide
    have bw0 : IntKind.i64.wrap 1 = 1 := by decide
    have bw1 : IntKind.i64.wrap 3 = 3 := by decide
    refine wp_region_takes (fun w' => w'.rangeAt w.heap.size (224) (ofK .u8 x) ∧ w'.rangeAt g1 (p1 + 64) (ofK .u8 y) ∧ w'.rangeAt g2 (p2 + 0) (ofK .u8 z)) [0, 1, 2, 3, 4, 5, 6, 7, 8, 9, 10, 11, 12, 13, 14, 15] 2 (by kernel_rfl) rfl (by kernel_rfl) (by kernel_rfl) (by exact HR.out) ?_
    iterate 16 (refine' HeldL.run ?_ ?_ ?_ ?_; rotate_left 2; (simp only [List.getElem?_toArray, List.getElem?_cons_zero, List.getElem?_cons_succ]; rfl); rfl; (rintro w' ⟨k0, k1, k2⟩; first | exact exec_load_mid rfl rfl k0 Try.underlying23 rfl HXI.out | exact exec_load_mid rfl rfl k1 Try.underlying23 rfl HYI.out | exact exec_load_mid rfl rfl k2 Try.underlying23 rfl HZI.out | (go_simp; with_reducible rfl)); simp only [Act.put, List.setIfInBounds_toArray, List.set_cons_zero, List.set_cons_succ])
    have HV := Lib.hid (show (fun w' => w'.rangeAt w.heap.size (224) (ofK .u8 x) ∧ w'.rangeAt g1 (p1 + 64) (ofK .u8 y) ∧ w'.rangeAt g2 (p2 + 0) (ofK .u8 z)) w4.drew ∧ Below w.heap.size w w4.drew from ⟨HR.out, below_thn H4.out.2.2.2 ((Sm.refl w4).drew.below _) (Nat.le_refl _)⟩)
    generalize w4.drew = v0 at HV ⊢
    clear HR H4
    refine' wpAnyH_one 16 (by kernel_rfl) ?_ ?_; rotate_left; (simp only [List.getElem?_toArray, List.getElem?_cons_zero, List.getElem?_cons_succ]; rfl)
    refine wpList_slice_id3 v0 rfl (.tmp 14) (.tmp 20) (.tmp 26) rfl x y z HXD.out HYD.out HZD.out rfl rfl rfl ?_
    intro v1 hsl hb hsz
    have HV1 := Lib.hid (show (fun w' => w'.rangeAt w.heap.size (224) (ofK .u8 x) ∧ w'.rangeAt g1 (p1 + 64) (ofK .u8 y) ∧ w'.rangeAt g2 (p2 + 0) (ofK .u8 z)) v1 ∧ SlD v1 (.slice (some ⟨v0.heap.size, 0, none⟩) 3 3) [x, y, z] ∧ v0.heap.size < v1.heap.size ∧ Below w.heap.size w v1 from ⟨⟨rangeW_below HV.out.1.1 hb, rangeW_below HV.out.1.2.1 hb, rangeW_below HV.out.1.2.2 hb⟩, hsl, by omega, below_thn HV.out.2 hb (Nat.le_refl _)⟩)
    have HSZ := Lib.hid HV.out.2.size
    clear hsl hb hsz
    simp only [Act.put, List.setIfInBounds_toArray, List.set_cons_zero, List.set_cons_succ]
    refine QK.normal ⟨HV1.out.1, ?_⟩
    refine' wpAnyH_one 17 (by kernel_rfl) ?_ ?_; rotate_left; (simp only [List.getElem?_toArray, List.getElem?_cons_zero, List.getElem?_cons_succ]; rfl)
    go_wp2_with fail
    refine QK.normal ⟨HV1.out.1, ?_⟩
    refine wpAnyH_done (by kernel_rfl) ?_ _
    refine NoPanic.normal ?_
    go_wp2_with fail
    go_ret
    exact ⟨_, rfl, HV1.out.2.1, HSZ.out, HV1.out.2.2.1, HV1.out.2.2.2⟩
  · skip
    obtain ⟨g0, p0, ho0, r0⟩ := SlD.spots H4.out.2.2.1 (e := 6) (by rw [HL.out.1]; omega)
    obtain ⟨g1, p1, ho1, r1⟩ := SlD.spots H4.out.2.1 (e := 2) (by rw [HL.out.2.1]; omega)
    obtain ⟨g2, p2, ho2, r2⟩ := SlD.spots H4.out.1 (e := 0) (by rw [HL.out.2.2.1]; omega)
    simp only [Option.some.injEq, Addr.mk.injEq, and_true] at ho0
    obtain ⟨rfl, rfl⟩ := ho0
    subst ho1 ho2
    have HR := Lib.hid (show (fun w' => w'.rangeAt w.heap.size (192) (ofK .u8 x) ∧ w'.rangeAt g1 (p1 + 64) (ofK .u8 y) ∧ w'.rangeAt g2 (p2 + 0) (ofK .u8 z)) w4 from ⟨by have h := r0; rw [show (rowM s 0)[6]'(by rw [HL.out.1]; omega) = x from HE.out.1 _] at h; simpa using h, by have h := r1; rw [show (rowM s 1)[2]'(by rw [HL.out.2.1]; omega) = y from HE.out.2.1 _] at h; exact h, by have h := r2; rw [show (rowM s 2)[0]'(by rw [HL.out.2.2.1]; omega) = z from HE.out.2.2 _] at h; exact h⟩)
    clear r0 r1 r2
    have bx0 : bits BinOp.xor IntKind.i64 1 1 = 0 := by decide
    have bx1 : bits BinOp.xor IntKind.i64 3 1 = 2 := by decide
    have bx2 : bits BinOp.xor IntKind.i64 7 1 = 6 := by decide
    have bw0 : IntKind.i64.wrap 1 = 1 := by decide
    have bw1 : IntKind.i64.wrap 3 = 3 := by decide
    refine wp_region_takes (fun w' => w'.rangeAt w.heap.size (192) (ofK .u8 x) ∧ w'.rangeAt g1 (p1 + 64) (ofK .u8 y) ∧ w'.rangeAt g2 (p2 + 0) (ofK .u8 z)) [0, 1, 2, 3, 4, 5, 6, 7, 8, 9, 10, 11, 12, 13, 14, 15] 2 (by kernel_rfl) rfl (by kernel_rfl) (by kernel_rfl) (by exact HR.out) ?_
    iterate 16 (refine' HeldL.run ?_ ?_ ?_ ?_; rotate_left 2; (simp only [List.getElem?_toArray, List.getElem?_cons_zero, List.getElem?_cons_succ]; rfl); rfl; (rintro w' ⟨k0, k1, k2⟩; first | exact exec_load_mid rfl rfl k0 Try.underlying23 rfl HXI.out | exact exec_load_mid rfl rfl k1 Try.underlying23 rfl HYI.out | exact exec_load_mid rfl rfl k2 Try.underlying23 rfl HZI.out | (go_simp; with_reducible rfl)); simp only [Act.put, List.setIfInBounds_toArray, List.set_cons_zero, List.set_cons_succ])
    have HV := Lib.hid (show (fun w' => w'.rangeAt w.heap.size (192) (ofK .u8 x) ∧ w'.rangeAt g1 (p1 + 64) (ofK .u8 y) ∧ w'.rangeAt g2 (p2 + 0) (ofK .u8 z)) w4.drew ∧ Below w.heap.size w w4.drew from ⟨HR.out, below_thn H4.out.2.2.2 ((Sm.refl w4).drew.below _) (Nat.le_refl _)⟩)
    generalize w4.drew = v0 at HV ⊢
    clear HR H4
    refine' wpAnyH_one 16 (by kernel_rfl) ?_ ?_; rotate_left; (simp only [List.getElem?_toArray, List.getElem?_cons_zero, List.getElem?_cons_succ]; rfl)
    refine wpList_slice_id3 v0 rfl (.tmp 14) (.tmp 20) (.tmp 26) rfl x y z HXD.out HYD.out HZD.out rfl rfl rfl ?_
    intro v1 hsl hb hsz
    have HV1 := Lib.hid (show (fun w' => w'.rangeAt w.heap.size (192) (ofK .u8 x) ∧ w'.rangeAt g1 (p1 + 64) (ofK .u8 y) ∧ w'.rangeAt g2 (p2 + 0) (ofK .u8 z)) v1 ∧ SlD v1 (.slice (some ⟨v0.heap.size, 0, none⟩) 3 3) [x, y, z] ∧ v0.heap.size < v1.heap.size ∧ Below w.heap.size w v1 from ⟨⟨rangeW_below HV.out.1.1 hb, rangeW_below HV.out.1.2.1 hb, rangeW_below HV.out.1.2.2 hb⟩, hsl, by omega, below_thn HV.out.2 hb (Nat.le_refl _)⟩)
    have HSZ := Lib.hid HV.out.2.size
    clear hsl hb hsz
    simp only [Act.put, List.setIfInBounds_toArray, List.set_cons_zero, List.set_cons_succ]
    refine QK.normal ⟨HV1.out.1, ?_⟩
    refine' wpAnyH_one 17 (by kernel_rfl) ?_ ?_; rotate_left; (simp only [List.getElem?_toArray, List.getElem?_cons_zero, List.getElem?_cons_succ]; rfl)
    go_wp2_with fail
    refine QK.normal ⟨HV1.out.1, ?_⟩
    refine wpAnyH_done (by kernel_rfl) ?_ _
    refine NoPanic.normal ?_
    go_wp2_with fail
    go_ret
    exact ⟨_, rfl, HV1.out.2.1, HSZ.out, HV1.out.2.2.1, HV1.out.2.2.2⟩


end Go.Proofs.Ytkbhehnpgnilmaa

namespace Go.Proofs.Ytkbhehnpgnilmaa
open Go Go.RowKit
set_option linter.unusedSimpArgs false
set_option linter.unusedVariables false

theorem SlD.set {w w' : World} {lg n c : Nat} {l : List (List Int)} {cells : List Value} {y : List Int} (h : SlD w (.slice (some ⟨lg, 0, none⟩) n c) l) (hb : Blk w lg 23 cells) (j : Nat) (hj : j < l.length) (hD : ∀ x ∈ l, IsD x) (hy : IsD y) (hb' : Blk w' lg 23 (setFrom cells (j * 32) (ofK .u8 y))) (hlen : n * 32 ≤ cells.length) : SlD w' (.slice (some ⟨lg, 0, none⟩) n c) (l.set j y) := by
  obtain ⟨ao, c', e, h2, h3, h4⟩ := h
  simp only [Value.slice.injEq] at e
  obtain ⟨rfl, rfl, rfl⟩ := e
  obtain ⟨g, o, h5, h6⟩ := h4 (by omega)
  simp only [Option.some.injEq, Addr.mk.injEq, and_true] at h5
  obtain ⟨rfl, rfl⟩ := h5
  refine ⟨some ⟨lg, 0, none⟩, c, by simp, by simpa using h2, h3, fun _ => ⟨lg, 0, rfl, fun k hk i v hv => ?_⟩⟩
  have hk' : k < l.length := by simpa using hk
  rw [hb'.cell, setFrom_get _ _ _ (by rw [length_ofK, hy.1]; omega)]
  have hi := (List.getElem?_eq_some_iff.1 hv).1
  by_cases hkj : k = j
  · subst hkj
    rw [List.getElem_set_self] at hv hi
    rw [length_ofK, hy.1] at hi
    rw [if_pos (by rw [length_ofK, hy.1]; omega), show 0 + k * 32 + i - k * 32 = i by omega]
    exact hv
  · rw [List.getElem_set_ne (Ne.symm hkj)] at hv hi
    rw [length_ofK, (hD _ (List.getElem_mem hk')).1] at hi
    rw [if_neg (by rw [length_ofK, hy.1]; omega)]
    have := h6 k hk' i v hv
    rwa [hb.cell] at this
theorem own_parts32 {w : World} {base n c : Nat} {ao : Option Addr} {xs : List Value} (h : w.ownsRow base 23 32 (.slice ao n c) n xs) (hn : 0 < n) : ∃ lg cells, ao = some ⟨lg, 0, none⟩ ∧ base ≤ lg ∧ Blk w lg 23 cells ∧ n * 32 ≤ cells.length := by
  obtain ⟨_, ⟨_, h3⟩ | ⟨g, cap, C, hv, h4, h5, h6, _, h8, _⟩⟩ := h
  · omega
  · simp only [Value.slice.injEq, true_and] at hv
    obtain ⟨rfl, rfl⟩ := hv
    exact ⟨g, C.toList, rfl, h4, by unfold Blk; simpa using h5, by rw [Array.length_toList, h8]; exact Nat.mul_le_mul_right 32 h6⟩
theorem set_D {l : List (List Int)} {y : List Int} {j : Nat} (hD : ∀ x ∈ l, IsD x) (hy : IsD y) : ∀ x ∈ l.set j y, IsD x := fun x hx => by
  rcases List.mem_or_eq_of_mem_set hx with h | rfl
  · exact hD x h
  · exact hy
/-- a change of a signature -/
structure Turn8D where
  k : Int
  i : Int
  y : List Int
instance : Inhabited Turn8D := ⟨⟨0, 0, []⟩⟩
def turn8C (q : Turn8D) : List Value := [.int .i64 q.k, .int .i64 q.i] ++ ofK .u8 q.y
theorem turn8_len {q : Turn8D} (h : IsD q.y) : (turn8C q).length = 34 := by unfold turn8C; rw [List.length_append, length_ofK, h.1]; rfl
theorem turn8_one (q : Turn8D) : ∀ v ∈ turn8C q, v.oneCell' = true := fun v hv => by
  unfold turn8C at hv
  rcases List.mem_append.1 hv with hv | hv
  · simp at hv; rcases hv with rfl | rfl <;> rfl
  · exact one_ofK _ _ v hv
theorem Try.infoT8 : (Try.prog.info? 100).map (·.size) = some 34 := by kernel_rfl
theorem info8 {q : Turn8D} (h : IsD q.y) : (Try.prog.info? 100).map (·.size) = some (turn8C q).length := by rw [turn8_len h]; exact Try.infoT8
theorem turn8_parts {w : World} {g : Nat} {e : TypeId} {q : Turn8D} (h : Blk w g e (turn8C q)) : w.cell? ⟨g, 0, none⟩ = some (.int .i64 q.k) ∧ w.cell? ⟨g, 1, none⟩ = some (.int .i64 q.i) ∧ w.rangeAt g 2 (ofK .u8 q.y) :=
  ⟨by rw [h.cell]; rfl, by rw [h.cell]; rfl, fun j v hv => by
    have := rangeW_blk h (2 + j) v (by unfold turn8C; rw [List.getElem?_append_right (by simp), List.length_cons, List.length_singleton, show 2 + j - 2 = j by omega]; exact hv)
    rwa [Nat.zero_add] at this⟩
theorem Try.sizeI8 : (Try.prog.info? 3).map (·.size) = some 1 := by kernel_rfl
theorem Try.sizeIds8 : (Try.prog.info? 54).map (·.size) = some 1 := by kernel_rfl
/-- what stands while a signature is changed -/
structure TuI (w : World) (gs gm gt r1 r2 B : Nat) (n : Int) (v1 v2 : Value) (m : List Int) (q : Turn8D) (W : World) : Prop where
  s : Blk W gs 90 (sgC n v1 v2)
  m : Blk W gm 23 (ofK .u8 m)
  t : Blk W gt 100 (turn8C q)
  f1 : Blk W r1 90 (sgC 0 (.slice none 0 0) (.slice none 0 0))
  f2 : Blk W r2 23 (ofK .u8 zer32)
  bel : Below w.heap.size w W
  o : w.heap.size ≤ gs ∧ gs < gm ∧ gm < gt ∧ gt < r1 ∧ r1 < r2 ∧ r2 < B ∧ B ≤ W.heap.size
section
variable {w W W' : World} {gs gm gt r1 r2 B : Nat} {n n' : Int} {v1 v2 v1' v2' : Value} {m m' : List Int} {q : Turn8D}
theorem TuI.low (h : TuI w gs gm gt r1 r2 B n v1 v2 m q W) (hb : Below W.heap.size W W') : TuI w gs gm gt r1 r2 B n v1 v2 m q W' :=
  ⟨h.s.below hb h.s.lt, h.m.below hb h.m.lt, h.t.below hb h.t.lt, h.f1.below hb h.f1.lt, h.f2.below hb h.f2.lt, below_thn h.bel hb (Nat.le_refl _), by have := h.o; have := hb.size; omega⟩
theorem TuI.far {S : Nat → Prop} (h : TuI w gs gm gt r1 r2 B n v1 v2 m q W) (hc : Ch S W W') (hS : ∀ k, S k → B ≤ k) : TuI w gs gm gt r1 r2 B n v1 v2 m q W' := by
  have ho := h.o
  have hz := hc.size
  exact ⟨h.s.keep hc (fun e => by have := hS _ e; omega), h.m.keep hc (fun e => by have := hS _ e; omega), h.t.keep hc (fun e => by have := hS _ e; omega), h.f1.keep hc (fun e => by have := hS _ e; omega), h.f2.keep hc (fun e => by have := hS _ e; omega), below_ch h.bel hc (Nat.le_refl _) (fun k hk => by have := hS _ hk; omega), by omega⟩
theorem TuI.setS (h : TuI w gs gm gt r1 r2 B n v1 v2 m q W) (hb : Blk W' gs 90 (sgC n' v1' v2')) (hc : Ch (· = gs) W W') : TuI w gs gm gt r1 r2 B n' v1' v2' m q W' := by
  have ho := h.o
  have hz := hc.size
  exact ⟨hb, h.m.keep hc (fun e => by have e : gm = gs := e; omega), h.t.keep hc (fun e => by have e : gt = gs := e; omega), h.f1.keep hc (fun e => by have e : r1 = gs := e; omega), h.f2.keep hc (fun e => by have e : r2 = gs := e; omega), below_ch h.bel hc (Nat.le_refl _) (fun k hk => by have e : k = gs := hk; omega), by omega⟩
theorem TuI.setM (h : TuI w gs gm gt r1 r2 B n v1 v2 m q W) (hb : Blk W' gm 23 (ofK .u8 m')) (hc : Ch (· = gm) W W') : TuI w gs gm gt r1 r2 B n v1 v2 m' q W' := by
  have ho := h.o
  have hz := hc.size
  exact ⟨h.s.keep hc (fun e => by have e : gs = gm := e; omega), hb, h.t.keep hc (fun e => by have e : gt = gm := e; omega), h.f1.keep hc (fun e => by have e : r1 = gm := e; omega), h.f2.keep hc (fun e => by have e : r2 = gm := e; omega), below_ch h.bel hc (Nat.le_refl _) (fun k hk => by have e : k = gm := hk; omega), by omega⟩
end
theorem own_upon {w w' : World} {S : Nat → Prop} {B n : Nat} {v : Value} {xs : List Value} (h : w.ownsRow B 23 32 v n xs) (hc : Ch S w w') (hS : ∀ k, S k → k < B) : w'.ownsRow B 23 32 v n xs :=
  own_ch h hc (fun k hk e => by have := hS k e; have := (h.lt k hk).1; omega)
/-- a signature that was changed, and a digest -/
def TurnedP (w : World) (e : Ending) (w' : World) : Prop := ∃ (n : Int) (so : Option Addr) (sc : Nat) (qo : Option Addr) (qc : Nat) (C P : List (List Int)) (m : List Int), e = .returned (.tuple #[.agg (sgC n (.slice so C.length sc) (.slice qo P.length qc)).toArray, .agg (ofK .u8 m).toArray]) ∧
  SlD w' (.slice so C.length sc) C ∧ SlD w' (.slice qo P.length qc) P ∧ (∀ x ∈ C, IsD x) ∧ (∀ x ∈ P, IsD x) ∧ IsD m ∧ Below w.heap.size w w'
theorem results_cc {P : Program} {fn : Func} {p q : Tmp} {ty ty2 : TypeId} (h : fn.results = #[.cell p ty, .cell q ty2]) (tmps : Array Value) (w : World) (g g2 : Nat) (v v2 : Value) (hp : tmps.getD p undef = .pointer (some ⟨g, 0, none⟩)) (hq : tmps.getD q undef = .pointer (some ⟨g2, 0, none⟩))
    (h1 : (loadVar ty ⟨g, 0, none⟩).run P w = .ok v w) (h2 : (loadVar ty2 ⟨g2, 0, none⟩).run P w = .ok v2 w) : (results fn tmps).run P w = .ok (.tuple #[v, v2]) w := by
  simp only [Array.getD_eq_getD_getElem?] at hp hq
  simp [results, h, hp, hq, asAddr, h1, h2, Result.andThen]


/-- rows whose blocks lie from B on stay where what lies below is written -/
def FarV (B : Nat) (v : Value) : Prop := ∀ k, v.ownBlock = some k → B ≤ k
theorem SlD.upon {w w' : World} {S : Nat → Prop} {B : Nat} {ao : Option Addr} {n c : Nat} {l : List (List Int)} (h : SlD w (.slice ao n c) l) (hf : FarV B (.slice ao n c)) (hc : Ch S w w') (hS : ∀ k, S k → k < B) : SlD w' (.slice ao n c) l := by
  obtain ⟨ao', c', e, h2, h3, h4⟩ := h
  refine ⟨ao', c', e, h2, h3, fun h0 => ?_⟩
  obtain ⟨g', o', h5, h6⟩ := h4 h0
  subst h5
  simp only [Value.slice.injEq] at e
  refine ⟨g', o', rfl, fun k hk => rangeW_ch (h6 k hk) hc (fun hs => ?_)⟩
  have h7 := hf g' (by rw [e.1]; rfl)
  have := hS g' hs
  omega
theorem far_own {w : World} {B n : Nat} {v : Value} {xs : List Value} (h : w.ownsRow B 23 32 v n xs) : FarV B v := fun k hk => (h.lt k hk).1
theorem far_len {B : Nat} {ao : Option Addr} {n c n' c' : Nat} (h : FarV B (.slice ao n c)) : FarV B (.slice ao n' c') := fun k hk => h k ((ownBlock_len _ _ _ _ _).trans hk)


set_option maxRecDepth 100000 in
set_option maxHeartbeats 16000000 in
theorem turned8_any (n : Int) (co po : Option Addr) (cc pc : Nat) (C P : List (List Int)) (m : List Int) (q : Turn8D) (w : World) (h1 : SlD w (.slice co 67 cc) C) (h2 : SlD w (.slice po 3 pc) P) (n1 : NilC (.slice co 67 cc)) (n2 : NilC (.slice po 3 pc)) (d1 : ∀ x ∈ C, IsD x) (d2 : ∀ x ∈ P, IsD x) (hm : IsD m) (hq : IsD q.y ∧ -9223372036854775808 ≤ q.i ∧ q.i ≤ 9223372036854775807) :
    Calls Try.prog 77 #[.agg (sgC n (.slice co 67 cc) (.slice po 3 pc)).toArray, .agg (ofK .u8 m).toArray, .agg (turn8C q).toArray] w (TurnedP w) := by
  have lC : C.length = 67 := by obtain ⟨_, _, e, _⟩ := h1; simp at e; exact e.2.1.symm
  have lP : P.length = 3 := by obtain ⟨_, _, e, _⟩ := h2; simp at e; exact e.2.1.symm
  have HC := Lib.hid (And.intro h1 (And.intro n1 (And.intro d1 lC)))
  have HP := Lib.hid (And.intro h2 (And.intro n2 (And.intro d2 lP)))
  have HMD := Lib.hid hm
  have HMI := Lib.hid (infoD hm)
  have HYD := Lib.hid hq.1
  have HYI := Lib.hid (infoD hq.1)
  have HYL := Lib.hid (lenD hq.1 isD_zer)
  have HML := Lib.hid (lenD hm isD_zer)
  have HQ := Lib.hid hq.2
  have HQ1 := Lib.hid (info8 hq.1)
  clear h1 h2 n1 n2 d1 d2 hm hq lC lP
  go_enter Try.func77, Try.ntmps77
  go_upto_region 1 with (first
    | ((with_reducible refine wpList_box_blk w rfl 90 (.tmp 0) rfl (sgC n (.slice co 67 cc) (.slice po 3 pc)) rfl ?_); intro a1 hb hbel hsz; have X1 := Lib.hid (And.intro hb (And.intro hbel hsz)); clear hb hbel hsz)
    | ((with_reducible refine wpList_box_blk a1 rfl 23 (.tmp 1) rfl (ofK .u8 m) rfl ?_); intro a2 hb hbel hsz; have X2 := Lib.hid (And.intro hb (And.intro hbel hsz)); clear hb hbel hsz)
    | ((with_reducible refine wpList_box_blk a2 rfl 100 (.tmp 2) rfl (turn8C q) rfl ?_); intro a3 hb hbel hsz; have X3 := Lib.hid (And.intro hb (And.intro hbel hsz)); clear hb hbel hsz)
    | ((with_reducible refine wpList_alloc_blk a3 rfl 90 rfl (sgC 0 (.slice none 0 0) (.slice none 0 0)) Try.zeroSg ?_); intro a4 hb hbel hsz; have X4 := Lib.hid (And.intro hb (And.intro hbel hsz)); clear hb hbel hsz)
    | ((with_reducible refine wpList_alloc_blk a4 rfl 23 rfl (ofK .u8 zer32) Try.zeroId ?_); intro a5 hb hbel hsz; have J0 : TuI w w.heap.size a1.heap.size a2.heap.size a3.heap.size a4.heap.size a5.heap.size n (.slice co 67 cc) (.slice po 3 pc) m q a5 := ⟨(((X1.out.1.below X2.out.2.1 X1.out.1.lt).below X3.out.2.1 (by have := X1.out.1.lt; have := X2.out.2.2; omega)).below X4.out.2.1 (by have := X1.out.1.lt; have := X2.out.2.2; have := X3.out.2.2; omega)).below hbel (by have := X1.out.1.lt; have := X2.out.2.2; have := X3.out.2.2; have := X4.out.2.2; omega), ((X2.out.1.below X3.out.2.1 X2.out.1.lt).below X4.out.2.1 (by have := X2.out.1.lt; have := X3.out.2.2; omega)).below hbel (by have := X2.out.1.lt; have := X3.out.2.2; have := X4.out.2.2; omega), (X3.out.1.below X4.out.2.1 X3.out.1.lt).below hbel (by have := X3.out.1.lt; have := X4.out.2.2; omega), X4.out.1.below hbel X4.out.1.lt, hb, below_thn (below_thn (below_thn (below_thn X1.out.2.1 X2.out.2.1 (Nat.le_refl _)) X3.out.2.1 (Nat.le_refl _)) X4.out.2.1 (Nat.le_refl _)) hbel (Nat.le_refl _), by have := X1.out.2.2; have := X2.out.2.2; have := X3.out.2.2; have := X4.out.2.2; omega⟩; clear hb hbel hsz X1 X2 X3 X4))
  simp only [Act.put, List.setIfInBounds_toArray, List.set_cons_zero, List.set_cons_succ]
  go_cut [] from 8 to 17 (fun wc => ∃ (o1 : Option Addr) (c1 : Nat) (o2 : Option Addr) (c2 : Nat), Hid (TuI w w.heap.size a1.heap.size a2.heap.size a3.heap.size a4.heap.size a5.heap.size (n) (.slice o1 67 c1) (.slice o2 3 c2) (m) q wc ∧ wc.ownsRow a5.heap.size 23 32 (.slice o1 67 c1) 67 (ofK .u8 C.flatten) ∧ wc.ownsRow a5.heap.size 23 32 (.slice o2 3 c2) 3 (ofK .u8 P.flatten) ∧ Np (.slice o1 67 c1) (.slice o2 3 c2)))
  case first =>
    go_wp2_with fail
    refine wp_region_marked (fun w' => w'.cell? ⟨w.heap.size, 1, none⟩ = some (.slice co 67 cc) ∧ w'.cell? ⟨w.heap.size, 2, none⟩ = some (.slice po 3 pc)) 9 [1, 2, 5, 6] 8 (by kernel_rfl) rfl (by kernel_rfl) (by kernel_rfl) ⟨J0.s.cell 1, J0.s.cell 2⟩ ?_
    iterate 4 (refine' HeldL.run ?_ ?_ ?_ ?_; rotate_left 2; (simp only [List.getElem?_toArray, List.getElem?_cons_zero, List.getElem?_cons_succ]; rfl); rfl; (rintro w' ⟨k0, k1⟩; go_simp; with_reducible rfl); simp only [Act.put, List.setIfInBounds_toArray, List.set_cons_zero, List.set_cons_succ])
    have sm := (Sm.refl a5).drew
    have HV2 := J0.low (sm.below _)
    clear sm
    generalize a5.drew = v1 at HV2 ⊢
    refine' wpAnyM_two 0 4 (by kernel_rfl) ?_ ?_ ?_ ?_; rotate_left 2; (simp only [List.getElem?_toArray, List.getElem?_cons_zero, List.getElem?_cons_succ]; rfl); (simp only [List.getElem?_toArray, List.getElem?_cons_zero, List.getElem?_cons_succ]; rfl)
    · skip
      refine wpList_slice_ids0 v1 rfl rfl ?_
      intro s3 hown hbel hsz
      have J4 := HV2.low hbel
      have HR5 := Lib.hid (own_low hown HV2.o.2.2.2.2.2.2)
      clear hown hbel hsz
      simp only [Act.put, List.setIfInBounds_toArray, List.set_cons_zero, List.set_cons_succ]
      refine QK.normal ⟨fun _ => ⟨J4.s.cell 1, J4.s.cell 2⟩, ?_⟩
      refine' wpAnyM_two 3 4 (by kernel_rfl) ?_ ?_ ?_ ?_; rotate_left 2; (simp only [List.getElem?_toArray, List.getElem?_cons_zero, List.getElem?_cons_succ]; rfl); (simp only [List.getElem?_toArray, List.getElem?_cons_zero, List.getElem?_cons_succ]; rfl)
      · skip
        at_builtin
        refine wpList_append_idsN s3 rfl (.tmp 8) (.tmp 10) rfl a5.heap.size (.slice (some ⟨v1.heap.size, 0, none⟩) 0 0) 0 ([] : List (List Int)) rfl HR5.out (.slice co 67 cc) C rfl (HC.out.1.below J4.bel) HC.out.2.1 HC.out.2.2.1 67 (by rw [Nat.zero_add]; exact HC.out.2.2.2) (by omega) J4.o.2.2.2.2.2.2 ?_
        intro o13 c14 s8 hown hgr hbl
        rw [List.nil_append] at hown
        have J9 := J4.far (ch_row hgr) (fun k hk => (HR5.out.lt k hk).1)
        have HR10 := Lib.hid hown
        clear hown hgr hbl
        simp only [Act.put, List.setIfInBounds_toArray, List.set_cons_zero, List.set_cons_succ]
        refine QK.normal ⟨fun _ => ⟨J9.s.cell 1, J9.s.cell 2⟩, ?_⟩
        refine wpAnyM_take0 (by kernel_rfl) noPanic_any (fuel := 5) (fun _ => ⟨J9.s.cell 1, J9.s.cell 2⟩) 8 (by kernel_rfl) ?_
        refine' HeldL.run ?_ ?_ ?_ ?_; rotate_left 2; (simp only [List.getElem?_toArray, List.getElem?_cons_zero, List.getElem?_cons_succ]; rfl); rfl; (rintro w' -; go_simp; with_reducible rfl); simp only [Act.put, List.setIfInBounds_toArray, List.set_cons_zero, List.set_cons_succ]
        refine' wpAnyM_one 4 (by kernel_rfl) ?_ ?_; rotate_left; (simp only [List.getElem?_toArray, List.getElem?_cons_zero, List.getElem?_cons_succ]; rfl)
        refine wpList_slice_ids0 s8 rfl rfl ?_
        intro s15 hown hbel hsz
        have J16 := J9.low hbel
        have HR17 := Lib.hid (own_low hown J9.o.2.2.2.2.2.2)
        have HO19 := Lib.hid (own_ch HR10.out (Ch.of_below (S := fun _ => False) hbel (Nat.le_refl _)) (fun _ _ h => h))
        have HN18 := Lib.hid (show Np (.slice (some ⟨s8.heap.size, 0, none⟩) 0 0) (.slice o13 67 c14) from fun k h1 h2 => by have h1 : some s8.heap.size = some k := h1; have h3 := (HR10.out.lt k h2).2; simp only [Option.some.injEq] at h1; omega)
        clear hown hbel hsz
        simp only [Act.put, List.setIfInBounds_toArray, List.set_cons_zero, List.set_cons_succ]
        refine QK.normal ⟨fun _ => ⟨J16.s.cell 1, J16.s.cell 2⟩, ?_⟩
        refine' wpAnyM_one 7 (by kernel_rfl) ?_ ?_; rotate_left; (simp only [List.getElem?_toArray, List.getElem?_cons_zero, List.getElem?_cons_succ]; rfl)
        at_builtin
        refine wpList_append_idsN s15 rfl (.tmp 12) (.tmp 14) rfl a5.heap.size (.slice (some ⟨s8.heap.size, 0, none⟩) 0 0) 0 ([] : List (List Int)) rfl HR17.out (.slice po 3 pc) P rfl (HP.out.1.below J16.bel) HP.out.2.1 HP.out.2.2.1 3 (by rw [Nat.zero_add]; exact HP.out.2.2.2) (by omega) J16.o.2.2.2.2.2.2 ?_
        intro o25 c26 s20 hown hgr hbl
        rw [List.nil_append] at hown
        have J21 := J16.far (ch_row hgr) (fun k hk => (HR17.out.lt k hk).1)
        have HR22 := Lib.hid hown
        have HO24 := Lib.hid (own_ch HO19.out (ch_row hgr) (fun k hk h => (Lib.hid HN18.out.sym).out.sym k h hk))
        have HN23 := Lib.hid (show Np (.slice o25 3 c26) (.slice o13 67 c14) from fun k h1 h2 => by
          rcases hbl with hbl | hbl
          · exact (Lib.hid HN18.out.sym).out.sym k (hbl ▸ h1) h2
          · have h3 := (HO19.out.lt k h2).2; rw [hbl] at h1; simp only [Option.some.injEq] at h1; omega)
        clear hown hgr hbl
        simp only [Act.put, List.setIfInBounds_toArray, List.set_cons_zero, List.set_cons_succ]
        refine QK.normal ⟨fun _ => ⟨J21.s.cell 1, J21.s.cell 2⟩, ?_⟩
        refine' wpAnyM_one 9 (by kernel_rfl) ?_ ?_; rotate_left; (simp only [List.getElem?_toArray, List.getElem?_cons_zero, List.getElem?_cons_succ]; rfl)
        refine wpList_store1 s20 rfl 54 (.tmp 16) (.tmp 11) rfl w.heap.size 1 90 (sgC n (.slice co 67 cc) (.slice po 3 pc)) J21.s rfl ((.slice o13 67 c14)) rfl (by simp [sgC]) Try.sizeIds8 rfl rfl ?_
        intro s27 hb hc hs
        have J28 : TuI w w.heap.size a1.heap.size a2.heap.size a3.heap.size a4.heap.size a5.heap.size (n) (.slice o13 67 c14) (.slice po 3 pc) (m) q s27 := J21.setS hb hc
        have HR29 := Lib.hid (own_upon HO24.out hc (fun k hk => by have hk : k = w.heap.size := hk; have := J21.o; omega))
        have HR30 := Lib.hid (own_upon HR22.out hc (fun k hk => by have hk : k = w.heap.size := hk; have := J21.o; omega))
        clear hb hc hs
        try simp only [Act.put, List.setIfInBounds_toArray, List.set_cons_zero, List.set_cons_succ]
        refine QK.normal ⟨fun h => absurd h (by decide), ?_⟩
        refine wpAnyM_take0 (by kernel_rfl) noPanic_any (fuel := 1) (fun h => absurd h (by decide)) 10 (by kernel_rfl) ?_
        refine' HeldL.run ?_ ?_ ?_ ?_; rotate_left 2; (simp only [List.getElem?_toArray, List.getElem?_cons_zero, List.getElem?_cons_succ]; rfl); rfl; (rintro w' -; go_simp; with_reducible rfl); simp only [Act.put, List.setIfInBounds_toArray, List.set_cons_zero, List.set_cons_succ]
        refine' wpAnyM_one 11 (by kernel_rfl) ?_ ?_; rotate_left; (simp only [List.getElem?_toArray, List.getElem?_cons_zero, List.getElem?_cons_succ]; rfl)
        refine wpList_store1 s27 rfl 54 (.tmp 17) (.tmp 15) rfl w.heap.size 2 90 (sgC n (.slice o13 67 c14) (.slice po 3 pc)) J28.s rfl ((.slice o25 3 c26)) rfl (by simp [sgC]) Try.sizeIds8 rfl rfl ?_
        intro s31 hb hc hs
        have J32 : TuI w w.heap.size a1.heap.size a2.heap.size a3.heap.size a4.heap.size a5.heap.size (n) (.slice o13 67 c14) (.slice o25 3 c26) (m) q s31 := J28.setS hb hc
        have HR33 := Lib.hid (own_upon HR29.out hc (fun k hk => by have hk : k = w.heap.size := hk; have := J28.o; omega))
        have HR34 := Lib.hid (own_upon HR30.out hc (fun k hk => by have hk : k = w.heap.size := hk; have := J28.o; omega))
        clear hb hc hs
        try simp only [Act.put, List.setIfInBounds_toArray, List.set_cons_zero, List.set_cons_succ]
        refine QK.normal ⟨fun h => absurd h (by decide), ?_⟩
        refine wpAnyM_done (by kernel_rfl) ?_ _
        refine NoPanic.normal ?_
        go_wp2_with fail
        go_meet
        case rel => exact ⟨_, _, _, _, Lib.hid ⟨J32, HR33.out, HR34.out, (Lib.hid HN23.out.sym).out⟩⟩
      · skip
        refine wpList_slice_ids0 s3 rfl rfl ?_
        intro s35 hown hbel hsz
        have J36 := J4.low hbel
        have HR37 := Lib.hid (own_low hown J4.o.2.2.2.2.2.2)
        have HO39 := Lib.hid (own_ch HR5.out (Ch.of_below (S := fun _ => False) hbel (Nat.le_refl _)) (fun _ _ h => h))
        have HN38 := Lib.hid (show Np (.slice (some ⟨s3.heap.size, 0, none⟩) 0 0) (.slice (some ⟨v1.heap.size, 0, none⟩) 0 0) from fun k h1 h2 => by have h1 : some s3.heap.size = some k := h1; have h3 := (HR5.out.lt k h2).2; simp only [Option.some.injEq] at h1; omega)
        clear hown hbel hsz
        simp only [Act.put, List.setIfInBounds_toArray, List.set_cons_zero, List.set_cons_succ]
        refine QK.normal ⟨fun _ => ⟨J36.s.cell 1, J36.s.cell 2⟩, ?_⟩
        refine' wpAnyM_one 3 (by kernel_rfl) ?_ ?_; rotate_left; (simp only [List.getElem?_toArray, List.getElem?_cons_zero, List.getElem?_cons_succ]; rfl)
        at_builtin
        refine wpList_append_idsN s35 rfl (.tmp 8) (.tmp 10) rfl a5.heap.size (.slice (some ⟨v1.heap.size, 0, none⟩) 0 0) 0 ([] : List (List Int)) rfl HO39.out (.slice co 67 cc) C rfl (HC.out.1.below J36.bel) HC.out.2.1 HC.out.2.2.1 67 (by rw [Nat.zero_add]; exact HC.out.2.2.2) (by omega) J36.o.2.2.2.2.2.2 ?_
        intro o45 c46 s40 hown hgr hbl
        rw [List.nil_append] at hown
        have J41 := J36.far (ch_row hgr) (fun k hk => (HO39.out.lt k hk).1)
        have HR42 := Lib.hid hown
        have HO44 := Lib.hid (own_ch HR37.out (ch_row hgr) (fun k hk h => (Lib.hid HN38.out.sym).out k h hk))
        have HN43 := Lib.hid (show Np (.slice o45 67 c46) (.slice (some ⟨s3.heap.size, 0, none⟩) 0 0) from fun k h1 h2 => by
          rcases hbl with hbl | hbl
          · exact (Lib.hid HN38.out.sym).out k (hbl ▸ h1) h2
          · have h3 := (HR37.out.lt k h2).2; rw [hbl] at h1; simp only [Option.some.injEq] at h1; omega)
        clear hown hgr hbl
        simp only [Act.put, List.setIfInBounds_toArray, List.set_cons_zero, List.set_cons_succ]
        refine QK.normal ⟨fun _ => ⟨J41.s.cell 1, J41.s.cell 2⟩, ?_⟩
        refine wpAnyM_take0 (by kernel_rfl) noPanic_any (fuel := 4) (fun _ => ⟨J41.s.cell 1, J41.s.cell 2⟩) 8 (by kernel_rfl) ?_
        refine' HeldL.run ?_ ?_ ?_ ?_; rotate_left 2; (simp only [List.getElem?_toArray, List.getElem?_cons_zero, List.getElem?_cons_succ]; rfl); rfl; (rintro w' -; go_simp; with_reducible rfl); simp only [Act.put, List.setIfInBounds_toArray, List.set_cons_zero, List.set_cons_succ]
        refine' wpAnyM_one 7 (by kernel_rfl) ?_ ?_; rotate_left; (simp only [List.getElem?_toArray, List.getElem?_cons_zero, List.getElem?_cons_succ]; rfl)
        at_builtin
        refine wpList_append_idsN s40 rfl (.tmp 12) (.tmp 14) rfl a5.heap.size (.slice (some ⟨s3.heap.size, 0, none⟩) 0 0) 0 ([] : List (List Int)) rfl HO44.out (.slice po 3 pc) P rfl (HP.out.1.below J41.bel) HP.out.2.1 HP.out.2.2.1 3 (by rw [Nat.zero_add]; exact HP.out.2.2.2) (by omega) J41.o.2.2.2.2.2.2 ?_
        intro o52 c53 s47 hown hgr hbl
        rw [List.nil_append] at hown
        have J48 := J41.far (ch_row hgr) (fun k hk => (HO44.out.lt k hk).1)
        have HR49 := Lib.hid hown
        have HO51 := Lib.hid (own_ch HR42.out (ch_row hgr) (fun k hk h => HN43.out.sym k h hk))
        have HN50 := Lib.hid (show Np (.slice o52 3 c53) (.slice o45 67 c46) from fun k h1 h2 => by
          rcases hbl with hbl | hbl
          · exact HN43.out.sym k (hbl ▸ h1) h2
          · have h3 := (HR42.out.lt k h2).2; rw [hbl] at h1; simp only [Option.some.injEq] at h1; omega)
        clear hown hgr hbl
        simp only [Act.put, List.setIfInBounds_toArray, List.set_cons_zero, List.set_cons_succ]
        refine QK.normal ⟨fun _ => ⟨J48.s.cell 1, J48.s.cell 2⟩, ?_⟩
        refine' wpAnyM_one 9 (by kernel_rfl) ?_ ?_; rotate_left; (simp only [List.getElem?_toArray, List.getElem?_cons_zero, List.getElem?_cons_succ]; rfl)
        refine wpList_store1 s47 rfl 54 (.tmp 16) (.tmp 11) rfl w.heap.size 1 90 (sgC n (.slice co 67 cc) (.slice po 3 pc)) J48.s rfl ((.slice o45 67 c46)) rfl (by simp [sgC]) Try.sizeIds8 rfl rfl ?_
        intro s54 hb hc hs
        have J55 : TuI w w.heap.size a1.heap.size a2.heap.size a3.heap.size a4.heap.size a5.heap.size (n) (.slice o45 67 c46) (.slice po 3 pc) (m) q s54 := J48.setS hb hc
        have HR56 := Lib.hid (own_upon HO51.out hc (fun k hk => by have hk : k = w.heap.size := hk; have := J48.o; omega))
        have HR57 := Lib.hid (own_upon HR49.out hc (fun k hk => by have hk : k = w.heap.size := hk; have := J48.o; omega))
        clear hb hc hs
        try simp only [Act.put, List.setIfInBounds_toArray, List.set_cons_zero, List.set_cons_succ]
        refine QK.normal ⟨fun h => absurd h (by decide), ?_⟩
        refine wpAnyM_take0 (by kernel_rfl) noPanic_any (fuel := 1) (fun h => absurd h (by decide)) 10 (by kernel_rfl) ?_
        refine' HeldL.run ?_ ?_ ?_ ?_; rotate_left 2; (simp only [List.getElem?_toArray, List.getElem?_cons_zero, List.getElem?_cons_succ]; rfl); rfl; (rintro w' -; go_simp; with_reducible rfl); simp only [Act.put, List.setIfInBounds_toArray, List.set_cons_zero, List.set_cons_succ]
        refine' wpAnyM_one 11 (by kernel_rfl) ?_ ?_; rotate_left; (simp only [List.getElem?_toArray, List.getElem?_cons_zero, List.getElem?_cons_succ]; rfl)
        refine wpList_store1 s54 rfl 54 (.tmp 17) (.tmp 15) rfl w.heap.size 2 90 (sgC n (.slice o45 67 c46) (.slice po 3 pc)) J55.s rfl ((.slice o52 3 c53)) rfl (by simp [sgC]) Try.sizeIds8 rfl rfl ?_
        intro s58 hb hc hs
        have J59 : TuI w w.heap.size a1.heap.size a2.heap.size a3.heap.size a4.heap.size a5.heap.size (n) (.slice o45 67 c46) (.slice o52 3 c53) (m) q s58 := J55.setS hb hc
        have HR60 := Lib.hid (own_upon HR56.out hc (fun k hk => by have hk : k = w.heap.size := hk; have := J55.o; omega))
        have HR61 := Lib.hid (own_upon HR57.out hc (fun k hk => by have hk : k = w.heap.size := hk; have := J55.o; omega))
        clear hb hc hs
        try simp only [Act.put, List.setIfInBounds_toArray, List.set_cons_zero, List.set_cons_succ]
        refine QK.normal ⟨fun h => absurd h (by decide), ?_⟩
        refine wpAnyM_done (by kernel_rfl) ?_ _
        refine NoPanic.normal ?_
        go_wp2_with fail
        go_meet
        case rel => exact ⟨_, _, _, _, Lib.hid ⟨J59, HR60.out, HR61.out, (Lib.hid HN50.out.sym).out⟩⟩
    · skip
      refine wpList_slice_ids0 v1 rfl rfl ?_
      intro s62 hown hbel hsz
      have J63 := HV2.low hbel
      have HR64 := Lib.hid (own_low hown HV2.o.2.2.2.2.2.2)
      clear hown hbel hsz
      simp only [Act.put, List.setIfInBounds_toArray, List.set_cons_zero, List.set_cons_succ]
      refine QK.normal ⟨fun _ => ⟨J63.s.cell 1, J63.s.cell 2⟩, ?_⟩
      refine' wpAnyM_one 0 (by kernel_rfl) ?_ ?_; rotate_left; (simp only [List.getElem?_toArray, List.getElem?_cons_zero, List.getElem?_cons_succ]; rfl)
      refine wpList_slice_ids0 s62 rfl rfl ?_
      intro s67 hown hbel hsz
      have J68 := J63.low hbel
      have HR69 := Lib.hid (own_low hown J63.o.2.2.2.2.2.2)
      have HO71 := Lib.hid (own_ch HR64.out (Ch.of_below (S := fun _ => False) hbel (Nat.le_refl _)) (fun _ _ h => h))
      have HN70 := Lib.hid (show Np (.slice (some ⟨s62.heap.size, 0, none⟩) 0 0) (.slice (some ⟨v1.heap.size, 0, none⟩) 0 0) from fun k h1 h2 => by have h1 : some s62.heap.size = some k := h1; have h3 := (HR64.out.lt k h2).2; simp only [Option.some.injEq] at h1; omega)
      clear hown hbel hsz
      simp only [Act.put, List.setIfInBounds_toArray, List.set_cons_zero, List.set_cons_succ]
      refine QK.normal ⟨fun _ => ⟨J68.s.cell 1, J68.s.cell 2⟩, ?_⟩
      refine' wpAnyM_one 3 (by kernel_rfl) ?_ ?_; rotate_left; (simp only [List.getElem?_toArray, List.getElem?_cons_zero, List.getElem?_cons_succ]; rfl)
      at_builtin
      refine wpList_append_idsN s67 rfl (.tmp 8) (.tmp 10) rfl a5.heap.size (.slice (some ⟨s62.heap.size, 0, none⟩) 0 0) 0 ([] : List (List Int)) rfl HR69.out (.slice co 67 cc) C rfl (HC.out.1.below J68.bel) HC.out.2.1 HC.out.2.2.1 67 (by rw [Nat.zero_add]; exact HC.out.2.2.2) (by omega) J68.o.2.2.2.2.2.2 ?_
      intro o77 c78 s72 hown hgr hbl
      rw [List.nil_append] at hown
      have J73 := J68.far (ch_row hgr) (fun k hk => (HR69.out.lt k hk).1)
      have HR74 := Lib.hid hown
      have HO76 := Lib.hid (own_ch HO71.out (ch_row hgr) (fun k hk h => HN70.out k h hk))
      have HN75 := Lib.hid (show Np (.slice o77 67 c78) (.slice (some ⟨v1.heap.size, 0, none⟩) 0 0) from fun k h1 h2 => by
        rcases hbl with hbl | hbl
        · exact HN70.out k (hbl ▸ h1) h2
        · have h3 := (HO71.out.lt k h2).2; rw [hbl] at h1; simp only [Option.some.injEq] at h1; omega)
      clear hown hgr hbl
      simp only [Act.put, List.setIfInBounds_toArray, List.set_cons_zero, List.set_cons_succ]
      refine QK.normal ⟨fun _ => ⟨J73.s.cell 1, J73.s.cell 2⟩, ?_⟩
      refine wpAnyM_take0 (by kernel_rfl) noPanic_any (fuel := 4) (fun _ => ⟨J73.s.cell 1, J73.s.cell 2⟩) 8 (by kernel_rfl) ?_
      refine' HeldL.run ?_ ?_ ?_ ?_; rotate_left 2; (simp only [List.getElem?_toArray, List.getElem?_cons_zero, List.getElem?_cons_succ]; rfl); rfl; (rintro w' -; go_simp; with_reducible rfl); simp only [Act.put, List.setIfInBounds_toArray, List.set_cons_zero, List.set_cons_succ]
      refine' wpAnyM_one 7 (by kernel_rfl) ?_ ?_; rotate_left; (simp only [List.getElem?_toArray, List.getElem?_cons_zero, List.getElem?_cons_succ]; rfl)
      at_builtin
      refine wpList_append_idsN s72 rfl (.tmp 12) (.tmp 14) rfl a5.heap.size (.slice (some ⟨v1.heap.size, 0, none⟩) 0 0) 0 ([] : List (List Int)) rfl HO76.out (.slice po 3 pc) P rfl (HP.out.1.below J73.bel) HP.out.2.1 HP.out.2.2.1 3 (by rw [Nat.zero_add]; exact HP.out.2.2.2) (by omega) J73.o.2.2.2.2.2.2 ?_
      intro o84 c85 s79 hown hgr hbl
      rw [List.nil_append] at hown
      have J80 := J73.far (ch_row hgr) (fun k hk => (HO76.out.lt k hk).1)
      have HR81 := Lib.hid hown
      have HO83 := Lib.hid (own_ch HR74.out (ch_row hgr) (fun k hk h => HN75.out.sym k h hk))
      have HN82 := Lib.hid (show Np (.slice o84 3 c85) (.slice o77 67 c78) from fun k h1 h2 => by
        rcases hbl with hbl | hbl
        · exact HN75.out.sym k (hbl ▸ h1) h2
        · have h3 := (HR74.out.lt k h2).2; rw [hbl] at h1; simp only [Option.some.injEq] at h1; omega)
      clear hown hgr hbl
      simp only [Act.put, List.setIfInBounds_toArray, List.set_cons_zero, List.set_cons_succ]
      refine QK.normal ⟨fun _ => ⟨J80.s.cell 1, J80.s.cell 2⟩, ?_⟩
      refine' wpAnyM_one 9 (by kernel_rfl) ?_ ?_; rotate_left; (simp only [List.getElem?_toArray, List.getElem?_cons_zero, List.getElem?_cons_succ]; rfl)
      refine wpList_store1 s79 rfl 54 (.tmp 16) (.tmp 11) rfl w.heap.size 1 90 (sgC n (.slice co 67 cc) (.slice po 3 pc)) J80.s rfl ((.slice o77 67 c78)) rfl (by simp [sgC]) Try.sizeIds8 rfl rfl ?_
      intro s86 hb hc hs
      have J87 : TuI w w.heap.size a1.heap.size a2.heap.size a3.heap.size a4.heap.size a5.heap.size (n) (.slice o77 67 c78) (.slice po 3 pc) (m) q s86 := J80.setS hb hc
      have HR88 := Lib.hid (own_upon HO83.out hc (fun k hk => by have hk : k = w.heap.size := hk; have := J80.o; omega))
      have HR89 := Lib.hid (own_upon HR81.out hc (fun k hk => by have hk : k = w.heap.size := hk; have := J80.o; omega))
      clear hb hc hs
      try simp only [Act.put, List.setIfInBounds_toArray, List.set_cons_zero, List.set_cons_succ]
      refine QK.normal ⟨fun h => absurd h (by decide), ?_⟩
      refine wpAnyM_take0 (by kernel_rfl) noPanic_any (fuel := 1) (fun h => absurd h (by decide)) 10 (by kernel_rfl) ?_
      refine' HeldL.run ?_ ?_ ?_ ?_; rotate_left 2; (simp only [List.getElem?_toArray, List.getElem?_cons_zero, List.getElem?_cons_succ]; rfl); rfl; (rintro w' -; go_simp; with_reducible rfl); simp only [Act.put, List.setIfInBounds_toArray, List.set_cons_zero, List.set_cons_succ]
      refine' wpAnyM_one 11 (by kernel_rfl) ?_ ?_; rotate_left; (simp only [List.getElem?_toArray, List.getElem?_cons_zero, List.getElem?_cons_succ]; rfl)
      refine wpList_store1 s86 rfl 54 (.tmp 17) (.tmp 15) rfl w.heap.size 2 90 (sgC n (.slice o77 67 c78) (.slice po 3 pc)) J87.s rfl ((.slice o84 3 c85)) rfl (by simp [sgC]) Try.sizeIds8 rfl rfl ?_
      intro s90 hb hc hs
      have J91 : TuI w w.heap.size a1.heap.size a2.heap.size a3.heap.size a4.heap.size a5.heap.size (n) (.slice o77 67 c78) (.slice o84 3 c85) (m) q s90 := J87.setS hb hc
      have HR92 := Lib.hid (own_upon HR88.out hc (fun k hk => by have hk : k = w.heap.size := hk; have := J87.o; omega))
      have HR93 := Lib.hid (own_upon HR89.out hc (fun k hk => by have hk : k = w.heap.size := hk; have := J87.o; omega))
      clear hb hc hs
      try simp only [Act.put, List.setIfInBounds_toArray, List.set_cons_zero, List.set_cons_succ]
      refine QK.normal ⟨fun h => absurd h (by decide), ?_⟩
      refine wpAnyM_done (by kernel_rfl) ?_ _
      refine NoPanic.normal ?_
      go_wp2_with fail
      go_meet
      case rel => exact ⟨_, _, _, _, Lib.hid ⟨J91, HR92.out, HR93.out, (Lib.hid HN82.out.sym).out⟩⟩
  case rest =>
  clear J0
  obtain ⟨o1, c1, o2, c2, HC0⟩ := hcut
  have J1 := HC0.out.1
  have RW1 := Lib.hid HC0.out.2.1
  have RW2 := Lib.hid HC0.out.2.2.1
  have NE1 := Lib.hid HC0.out.2.2.2
  clear HC0
  skip
  have kc0 := (turn8_parts J1.t).1
  have hk : (IntKind.u64.wrap q.k).tmod 6 = 0 ∨ (IntKind.u64.wrap q.k).tmod 6 = 1 ∨ (IntKind.u64.wrap q.k).tmod 6 = 2 ∨ (IntKind.u64.wrap q.k).tmod 6 = 3 ∨ (IntKind.u64.wrap q.k).tmod 6 = 4 ∨ (IntKind.u64.wrap q.k).tmod 6 = 5 := by
    have h1 : 0 ≤ IntKind.u64.wrap q.k := by rw [IntKind.wrap_u64]; omega
    rw [Int.tmod_eq_emod_of_nonneg h1]; omega
  rcases hk with hk | hk | hk | hk | hk | hk
  · skip
    have kc1 := (turn8_parts J1.t).2.1
    go_wp2_with (first
    | ((with_reducible refine wpList_store1 wc rfl 3 (.tmp 28) (.tmp 27) rfl w.heap.size 0 90 (sgC n (.slice o1 67 c1) (.slice o2 3 c2)) J1.s rfl (.int .i64 q.i) rfl (by simp [sgC]) Try.sizeI8 rfl rfl ?_); intro s94 hb hc hs; have J95 : TuI w w.heap.size a1.heap.size a2.heap.size a3.heap.size a4.heap.size a5.heap.size (q.i) (.slice o1 67 c1) (.slice o2 3 c2) (m) q s94 := J1.setS hb hc; have HR1 := Lib.hid (own_upon RW1.out hc (fun k hk => by have hk : k = w.heap.size := hk; have := J1.o; omega)); have HR2 := Lib.hid (own_upon RW2.out hc (fun k hk => by have hk : k = w.heap.size := hk; have := J1.o; omega)); clear hb hc hs))
    clear kc1
    have HS1 := Lib.hid (SlD.of_owns HR1.out HC.out.2.2.2.symm HC.out.2.2.1)
    have HS2 := Lib.hid (SlD.of_owns HR2.out HP.out.2.2.2.symm HP.out.2.2.1)
    have HFAR := Lib.hid (And.intro (far_own HR1.out) (far_own HR2.out))
    have HFL := Lib.hid (And.intro HC.out.2.2.2 (And.intro HP.out.2.2.2 (And.intro HC.out.2.2.1 HP.out.2.2.1)))
    go_wp2_with fail
    refine wp_region_takes (fun w' => w'.rangeAt w.heap.size 0 (sgC q.i (.slice o1 67 c1) (.slice o2 3 c2)) ∧ w'.rangeAt a1.heap.size 0 (ofK .u8 m)) [0, 1] 2 (by kernel_rfl) rfl (by kernel_rfl) (by kernel_rfl) (⟨rangeW_blk J95.s, rangeW_blk J95.m⟩) ?_
    iterate 2 (refine' HeldL.run ?_ ?_ ?_ ?_; rotate_left 2; (simp only [List.getElem?_toArray, List.getElem?_cons_zero, List.getElem?_cons_succ]; rfl); rfl; (rintro w' ⟨k0, k1⟩; first | exact exec_load_mid rfl rfl k0 Try.underlying90 rfl (sgC_info _ _ _) | exact exec_load_mid rfl rfl k1 Try.underlying23 rfl HMI.out); simp only [Act.put, List.setIfInBounds_toArray, List.set_cons_zero, List.set_cons_succ])
    have sm := (Sm.refl s94).drew
    have HZ := Lib.hid (show TuI w w.heap.size a1.heap.size a2.heap.size a3.heap.size a4.heap.size a5.heap.size (q.i) (.slice o1 67 c1) (.slice o2 3 c2) (m) q s94.drew ∧ SlD s94.drew (.slice o1 67 c1) C ∧ SlD s94.drew (.slice o2 3 c2) P from ⟨J95.low (sm.below _), HS1.out.below (sm.below _), HS2.out.below (sm.below _)⟩)
    clear sm
    generalize s94.drew = z0 at HZ ⊢
    refine' wpAnyH_one 2 (by kernel_rfl) ?_ ?_; rotate_left; (simp only [List.getElem?_toArray, List.getElem?_cons_zero, List.getElem?_cons_succ]; rfl)
    refine wpList_store_blk z0 rfl 90 (.tmp 6) (.tmp 101) rfl a3.heap.size 90 (sgC 0 (.slice none 0 0) (.slice none 0 0)) (sgC q.i (.slice o1 67 c1) (.slice o2 3 c2)) HZ.out.1.f1 rfl rfl rfl (sgC_info _ _ _) (sgC_one _ _ _ _ _ _ _) ?_
    intro z1 hb hc hs
    have HY := Lib.hid (show Blk z1 a3.heap.size 90 (sgC q.i (.slice o1 67 c1) (.slice o2 3 c2)) ∧ Blk z1 a4.heap.size 23 (ofK .u8 zer32) ∧ Blk z1 w.heap.size 90 (sgC q.i (.slice o1 67 c1) (.slice o2 3 c2)) ∧ Blk z1 a1.heap.size 23 (ofK .u8 m) ∧ Ch (fun k => a3.heap.size ≤ k ∧ k < a5.heap.size) z0 z1 from ⟨hb, HZ.out.1.f2.keep hc (fun e => by have e : a4.heap.size = a3.heap.size := e; have := HZ.out.1.o; omega), HZ.out.1.s.keep hc (fun e => by have e : w.heap.size = a3.heap.size := e; have := HZ.out.1.o; omega), HZ.out.1.m.keep hc (fun e => by have e : a1.heap.size = a3.heap.size := e; have := HZ.out.1.o; omega), hc.mono (fun k hk => by have e : k = a3.heap.size := hk; have := HZ.out.1.o; omega)⟩)
    clear hb hc hs
    try simp only [Act.put, List.setIfInBounds_toArray, List.set_cons_zero, List.set_cons_succ]
    refine QK.normal ⟨⟨rangeW_blk HY.out.2.2.1, rangeW_blk HY.out.2.2.2.1⟩, ?_⟩
    refine' wpAnyH_one 3 (by kernel_rfl) ?_ ?_; rotate_left; (simp only [List.getElem?_toArray, List.getElem?_cons_zero, List.getElem?_cons_succ]; rfl)
    refine wpList_store_blk z1 rfl 23 (.tmp 7) (.tmp 102) rfl a4.heap.size 23 (ofK .u8 zer32) (ofK .u8 m) HY.out.2.1 rfl rfl HML.out HMI.out (one_ofK _ _) ?_
    intro z2 hb hc hs
    have HX := Lib.hid (show Blk z2 a3.heap.size 90 (sgC q.i (.slice o1 67 c1) (.slice o2 3 c2)) ∧ Blk z2 a4.heap.size 23 (ofK .u8 m) ∧ Blk z2 w.heap.size 90 (sgC q.i (.slice o1 67 c1) (.slice o2 3 c2)) ∧ Blk z2 a1.heap.size 23 (ofK .u8 m) ∧ Ch (fun k => a3.heap.size ≤ k ∧ k < a5.heap.size) z0 z2 from ⟨HY.out.1.keep hc (fun e => by have e : a3.heap.size = a4.heap.size := e; have := HZ.out.1.o; omega), hb, HY.out.2.2.1.keep hc (fun e => by have e : w.heap.size = a4.heap.size := e; have := HZ.out.1.o; omega), HY.out.2.2.2.1.keep hc (fun e => by have e : a1.heap.size = a4.heap.size := e; have := HZ.out.1.o; omega), HY.out.2.2.2.2.trans (hc.mono (fun k hk => by have e : k = a4.heap.size := hk; have := HZ.out.1.o; omega))⟩)
    clear hb hc hs
    try simp only [Act.put, List.setIfInBounds_toArray, List.set_cons_zero, List.set_cons_succ]
    refine QK.normal ⟨⟨rangeW_blk HX.out.2.2.1, rangeW_blk HX.out.2.2.2.1⟩, ?_⟩
    refine wpAnyH_done (by kernel_rfl) ?_ _
    refine NoPanic.normal ?_
    go_wp2_with fail
    have k1 := SlD.upon HZ.out.2.1 HFAR.out.1 HX.out.2.2.2.2 (fun k hk => hk.2)
    have k2 := SlD.upon HZ.out.2.2 HFAR.out.2 HX.out.2.2.2.2 (fun k hk => hk.2)
    have k3 := HFL.out
    refine bodyPost_ret (results_cc Try.results77 _ _ a3.heap.size a4.heap.size _ _ rfl rfl (run_loadVar_mid (P := Try.prog) _ a3.heap.size 0 90 (sgC q.i (.slice o1 67 c1) (.slice o2 3 c2)) _ (rangeW_blk HX.out.1) Try.underlying90 rfl (sgC_info _ _ _)) (run_loadVar_mid (P := Try.prog) _ a4.heap.size 0 23 (ofK .u8 m) _ (rangeW_blk HX.out.2.1) Try.underlying23 rfl HMI.out)) rfl ?_
    exact ⟨_, _, _, _, _, _, _, _, by rw [k3.1, k3.2.1], by rw [k3.1]; exact k1, by rw [k3.2.1]; exact k2, k3.2.2.1, k3.2.2.2, HMD.out, below_ch HZ.out.1.bel HX.out.2.2.2.2 (Nat.le_refl _) (fun k hk => by have := HZ.out.1.o; omega)⟩
  · skip
    go_wp2_with fail
    clear kc0 hk
    obtain ⟨jj, hj1, hj2⟩ : ∃ jj : Nat, jj < 67 ∧ (IntKind.u64.wrap q.i).tmod 67 = (jj : Int) := by
      have h1 : 0 ≤ IntKind.u64.wrap q.i := by rw [IntKind.wrap_u64]; omega
      have h2 := Int.emod_nonneg (IntKind.u64.wrap q.i) (show (67 : Int) ≠ 0 by omega)
      have h3 := Int.emod_lt_of_pos (IntKind.u64.wrap q.i) (show (0 : Int) < 67 by omega)
      exact ⟨(IntKind.u64.wrap q.i % 67).toNat, by omega, by rw [Int.tmod_eq_emod_of_nonneg h1]; omega⟩
    have hj3 : (jj : Int) < 67 := by omega
    have hj4 : (0 : Int) ≤ (jj : Int) := by omega
    have hw1 : IntKind.u64.wrap 67 = 67 := by decide
    obtain ⟨lg, cells, hlg, hlB, hlb, hll⟩ := own_parts32 RW1.out (by omega)
    subst hlg
    have HLB := Lib.hid (And.intro hlb (And.intro hll hlB))
    clear hlb hll hlB
    go_wp2_with fail
    refine wp_region_takes (fun w' => w'.cell? ⟨w.heap.size, 1, none⟩ = some (.slice (some ⟨lg, 0, none⟩) 67 c1) ∧ w'.cell? ⟨a2.heap.size, 1, none⟩ = some (.int .i64 q.i) ∧ w'.rangeAt a2.heap.size 2 (ofK .u8 q.y)) [0, 1, 2, 3, 4, 5, 6, 7, 8, 9, 10, 11] 2 (by kernel_rfl) rfl (by kernel_rfl) (by kernel_rfl) (⟨J1.s.cell 1, (turn8_parts J1.t).2.1, (turn8_parts J1.t).2.2⟩) ?_
    iterate 12 (refine' HeldL.run ?_ ?_ ?_ ?_; rotate_left 2; (simp only [List.getElem?_toArray, List.getElem?_cons_zero, List.getElem?_cons_succ]; rfl); rfl; (rintro w' ⟨k0, k1, k2⟩; first | exact exec_load_mid rfl rfl k2 Try.underlying23 rfl HYI.out | (go_simp; with_reducible rfl)); simp only [Act.put, List.setIfInBounds_toArray, List.set_cons_zero, List.set_cons_succ])
    have sm := (Sm.refl wc).drew
    have HV := Lib.hid (show TuI w w.heap.size a1.heap.size a2.heap.size a3.heap.size a4.heap.size a5.heap.size (n) (.slice (some ⟨lg, 0, none⟩) 67 c1) (.slice o2 3 c2) (m) q wc.drew ∧ wc.drew.ownsRow a5.heap.size 23 32 (.slice (some ⟨lg, 0, none⟩) 67 c1) 67 (ofK .u8 C.flatten) ∧ wc.drew.ownsRow a5.heap.size 23 32 (.slice o2 3 c2) 3 (ofK .u8 P.flatten) ∧ Blk wc.drew lg 23 cells from ⟨J1.low (sm.below _), own_ch RW1.out (Ch.of_below (S := fun _ => False) (sm.below _) (Nat.le_refl _)) (fun _ _ h => h), own_ch RW2.out (Ch.of_below (S := fun _ => False) (sm.below _) (Nat.le_refl _)) (fun _ _ h => h), HLB.out.1.below (sm.below _) HLB.out.1.lt⟩)
    clear sm
    generalize wc.drew = v0 at HV ⊢
    refine' wpAnyH_one 12 (by kernel_rfl) ?_ ?_; rotate_left; (simp only [List.getElem?_toArray, List.getElem?_cons_zero, List.getElem?_cons_succ]; rfl)
    go_wp2_with fail
    refine QK.normal ⟨⟨HV.out.1.s.cell 1, (turn8_parts HV.out.1.t).2.1, (turn8_parts HV.out.1.t).2.2⟩, ?_⟩
    refine' wpAnyH_one 13 (by kernel_rfl) ?_ ?_; rotate_left; (simp only [List.getElem?_toArray, List.getElem?_cons_zero, List.getElem?_cons_succ]; rfl)
    refine wpList_store_part v0 rfl 23 (.tmp 43) (.tmp 42) rfl lg (jj * 32) 23 cells (ofK .u8 q.y) HV.out.2.2.2 ?_ rfl ?_ HYI.out (one_ofK _ _) ?_
    focus (first | rfl | (simp; done))
    focus (rw [length_ofK, HYD.out.1]; have := HLB.out.2.1; omega)
    intro u1 hb hc hs
    have HU := Lib.hid (show TuI w w.heap.size a1.heap.size a2.heap.size a3.heap.size a4.heap.size a5.heap.size (n) (.slice (some ⟨lg, 0, none⟩) 67 c1) (.slice o2 3 c2) (m) q u1 ∧ SlD u1 (.slice (some ⟨lg, 0, none⟩) 67 c1) (C.set jj q.y) ∧ u1.ownsRow a5.heap.size 23 32 (.slice o2 3 c2) 3 (ofK .u8 P.flatten) from ⟨HV.out.1.far hc (fun k hk => by have e : k = lg := hk; have := HLB.out.2.2; omega), SlD.set (SlD.of_owns HV.out.2.1 HC.out.2.2.2.symm HC.out.2.2.1) HV.out.2.2.2 jj (by rw [HC.out.2.2.2]; exact hj1) HC.out.2.2.1 HYD.out hb HLB.out.2.1, own_ch HV.out.2.2.1 hc (fun k hk e => by have e : k = lg := e; rw [e] at hk; exact (NE1.out lg rfl) hk)⟩)
    clear hb hc hs
    try simp only [Act.put, List.setIfInBounds_toArray, List.set_cons_zero, List.set_cons_succ]
    refine QK.normal ⟨⟨HU.out.1.s.cell 1, (turn8_parts HU.out.1.t).2.1, (turn8_parts HU.out.1.t).2.2⟩, ?_⟩
    refine wpAnyH_done (by kernel_rfl) ?_ _
    refine NoPanic.normal ?_
    have HFAR := Lib.hid (And.intro (far_own HV.out.2.1) (far_own HU.out.2.2))
    have HFL := Lib.hid (show (C.set jj q.y).length = 67 ∧ P.length = 3 ∧ (∀ x ∈ (C.set jj q.y), IsD x) ∧ (∀ x ∈ P, IsD x) from ⟨by first | exact HC.out.2.2.2 | (rw [List.length_set]; exact HC.out.2.2.2), by first | exact HP.out.2.2.2 | (rw [List.length_set]; exact HP.out.2.2.2), by first | exact HC.out.2.2.1 | exact set_D HC.out.2.2.1 HYD.out, by first | exact HP.out.2.2.1 | exact set_D HP.out.2.2.1 HYD.out⟩)
    clear hj2 hj3 hj4 hw1
    go_wp2_with fail
    refine wp_region_takes (fun w' => w'.rangeAt w.heap.size 0 (sgC n (.slice (some ⟨lg, 0, none⟩) 67 c1) (.slice o2 3 c2)) ∧ w'.rangeAt a1.heap.size 0 (ofK .u8 m)) [0, 1] 2 (by kernel_rfl) rfl (by kernel_rfl) (by kernel_rfl) (⟨rangeW_blk HU.out.1.s, rangeW_blk HU.out.1.m⟩) ?_
    iterate 2 (refine' HeldL.run ?_ ?_ ?_ ?_; rotate_left 2; (simp only [List.getElem?_toArray, List.getElem?_cons_zero, List.getElem?_cons_succ]; rfl); rfl; (rintro w' ⟨k0, k1⟩; first | exact exec_load_mid rfl rfl k0 Try.underlying90 rfl (sgC_info _ _ _) | exact exec_load_mid rfl rfl k1 Try.underlying23 rfl HMI.out); simp only [Act.put, List.setIfInBounds_toArray, List.set_cons_zero, List.set_cons_succ])
    have sm := (Sm.refl u1).drew
    have HZ := Lib.hid (show TuI w w.heap.size a1.heap.size a2.heap.size a3.heap.size a4.heap.size a5.heap.size (n) (.slice (some ⟨lg, 0, none⟩) 67 c1) (.slice o2 3 c2) (m) q u1.drew ∧ SlD u1.drew (.slice (some ⟨lg, 0, none⟩) 67 c1) (C.set jj q.y) ∧ SlD u1.drew (.slice o2 3 c2) P from ⟨HU.out.1.low (sm.below _), HU.out.2.1.below (sm.below _), (SlD.of_owns HU.out.2.2 HP.out.2.2.2.symm HP.out.2.2.1).below (sm.below _)⟩)
    clear sm
    generalize u1.drew = z0 at HZ ⊢
    refine' wpAnyH_one 2 (by kernel_rfl) ?_ ?_; rotate_left; (simp only [List.getElem?_toArray, List.getElem?_cons_zero, List.getElem?_cons_succ]; rfl)
    refine wpList_store_blk z0 rfl 90 (.tmp 6) (.tmp 101) rfl a3.heap.size 90 (sgC 0 (.slice none 0 0) (.slice none 0 0)) (sgC n (.slice (some ⟨lg, 0, none⟩) 67 c1) (.slice o2 3 c2)) HZ.out.1.f1 rfl rfl rfl (sgC_info _ _ _) (sgC_one _ _ _ _ _ _ _) ?_
    intro z1 hb hc hs
    have HY := Lib.hid (show Blk z1 a3.heap.size 90 (sgC n (.slice (some ⟨lg, 0, none⟩) 67 c1) (.slice o2 3 c2)) ∧ Blk z1 a4.heap.size 23 (ofK .u8 zer32) ∧ Blk z1 w.heap.size 90 (sgC n (.slice (some ⟨lg, 0, none⟩) 67 c1) (.slice o2 3 c2)) ∧ Blk z1 a1.heap.size 23 (ofK .u8 m) ∧ Ch (fun k => a3.heap.size ≤ k ∧ k < a5.heap.size) z0 z1 from ⟨hb, HZ.out.1.f2.keep hc (fun e => by have e : a4.heap.size = a3.heap.size := e; have := HZ.out.1.o; omega), HZ.out.1.s.keep hc (fun e => by have e : w.heap.size = a3.heap.size := e; have := HZ.out.1.o; omega), HZ.out.1.m.keep hc (fun e => by have e : a1.heap.size = a3.heap.size := e; have := HZ.out.1.o; omega), hc.mono (fun k hk => by have e : k = a3.heap.size := hk; have := HZ.out.1.o; omega)⟩)
    clear hb hc hs
    try simp only [Act.put, List.setIfInBounds_toArray, List.set_cons_zero, List.set_cons_succ]
    refine QK.normal ⟨⟨rangeW_blk HY.out.2.2.1, rangeW_blk HY.out.2.2.2.1⟩, ?_⟩
    refine' wpAnyH_one 3 (by kernel_rfl) ?_ ?_; rotate_left; (simp only [List.getElem?_toArray, List.getElem?_cons_zero, List.getElem?_cons_succ]; rfl)
    refine wpList_store_blk z1 rfl 23 (.tmp 7) (.tmp 102) rfl a4.heap.size 23 (ofK .u8 zer32) (ofK .u8 m) HY.out.2.1 rfl rfl HML.out HMI.out (one_ofK _ _) ?_
    intro z2 hb hc hs
    have HX := Lib.hid (show Blk z2 a3.heap.size 90 (sgC n (.slice (some ⟨lg, 0, none⟩) 67 c1) (.slice o2 3 c2)) ∧ Blk z2 a4.heap.size 23 (ofK .u8 m) ∧ Blk z2 w.heap.size 90 (sgC n (.slice (some ⟨lg, 0, none⟩) 67 c1) (.slice o2 3 c2)) ∧ Blk z2 a1.heap.size 23 (ofK .u8 m) ∧ Ch (fun k => a3.heap.size ≤ k ∧ k < a5.heap.size) z0 z2 from ⟨HY.out.1.keep hc (fun e => by have e : a3.heap.size = a4.heap.size := e; have := HZ.out.1.o; omega), hb, HY.out.2.2.1.keep hc (fun e => by have e : w.heap.size = a4.heap.size := e; have := HZ.out.1.o; omega), HY.out.2.2.2.1.keep hc (fun e => by have e : a1.heap.size = a4.heap.size := e; have := HZ.out.1.o; omega), HY.out.2.2.2.2.trans (hc.mono (fun k hk => by have e : k = a4.heap.size := hk; have := HZ.out.1.o; omega))⟩)
    clear hb hc hs
    try simp only [Act.put, List.setIfInBounds_toArray, List.set_cons_zero, List.set_cons_succ]
    refine QK.normal ⟨⟨rangeW_blk HX.out.2.2.1, rangeW_blk HX.out.2.2.2.1⟩, ?_⟩
    refine wpAnyH_done (by kernel_rfl) ?_ _
    refine NoPanic.normal ?_
    go_wp2_with fail
    have k1 := SlD.upon HZ.out.2.1 HFAR.out.1 HX.out.2.2.2.2 (fun k hk => hk.2)
    have k2 := SlD.upon HZ.out.2.2 HFAR.out.2 HX.out.2.2.2.2 (fun k hk => hk.2)
    have k3 := HFL.out
    refine bodyPost_ret (results_cc Try.results77 _ _ a3.heap.size a4.heap.size _ _ rfl rfl (run_loadVar_mid (P := Try.prog) _ a3.heap.size 0 90 (sgC n (.slice (some ⟨lg, 0, none⟩) 67 c1) (.slice o2 3 c2)) _ (rangeW_blk HX.out.1) Try.underlying90 rfl (sgC_info _ _ _)) (run_loadVar_mid (P := Try.prog) _ a4.heap.size 0 23 (ofK .u8 m) _ (rangeW_blk HX.out.2.1) Try.underlying23 rfl HMI.out)) rfl ?_
    exact ⟨_, _, _, _, _, _, _, _, by rw [k3.1, k3.2.1], by rw [k3.1]; exact k1, by rw [k3.2.1]; exact k2, k3.2.2.1, k3.2.2.2, HMD.out, below_ch HZ.out.1.bel HX.out.2.2.2.2 (Nat.le_refl _) (fun k hk => by have := HZ.out.1.o; omega)⟩
  · skip
    go_wp2_with fail
    clear kc0 hk
    obtain ⟨jj, hj1, hj2⟩ : ∃ jj : Nat, jj < 3 ∧ (IntKind.u64.wrap q.i).tmod 3 = (jj : Int) := by
      have h1 : 0 ≤ IntKind.u64.wrap q.i := by rw [IntKind.wrap_u64]; omega
      have h2 := Int.emod_nonneg (IntKind.u64.wrap q.i) (show (3 : Int) ≠ 0 by omega)
      have h3 := Int.emod_lt_of_pos (IntKind.u64.wrap q.i) (show (0 : Int) < 3 by omega)
      exact ⟨(IntKind.u64.wrap q.i % 3).toNat, by omega, by rw [Int.tmod_eq_emod_of_nonneg h1]; omega⟩
    have hj3 : (jj : Int) < 3 := by omega
    have hj4 : (0 : Int) ≤ (jj : Int) := by omega
    have hw1 : IntKind.u64.wrap 3 = 3 := by decide
    obtain ⟨lg, cells, hlg, hlB, hlb, hll⟩ := own_parts32 RW2.out (by omega)
    subst hlg
    have HLB := Lib.hid (And.intro hlb (And.intro hll hlB))
    clear hlb hll hlB
    go_wp2_with fail
    refine wp_region_takes (fun w' => w'.cell? ⟨w.heap.size, 2, none⟩ = some (.slice (some ⟨lg, 0, none⟩) 3 c2) ∧ w'.cell? ⟨a2.heap.size, 1, none⟩ = some (.int .i64 q.i) ∧ w'.rangeAt a2.heap.size 2 (ofK .u8 q.y)) [0, 1, 2, 3, 4, 5, 6, 7, 8, 9, 10, 11] 2 (by kernel_rfl) rfl (by kernel_rfl) (by kernel_rfl) (⟨J1.s.cell 2, (turn8_parts J1.t).2.1, (turn8_parts J1.t).2.2⟩) ?_
    iterate 12 (refine' HeldL.run ?_ ?_ ?_ ?_; rotate_left 2; (simp only [List.getElem?_toArray, List.getElem?_cons_zero, List.getElem?_cons_succ]; rfl); rfl; (rintro w' ⟨k0, k1, k2⟩; first | exact exec_load_mid rfl rfl k2 Try.underlying23 rfl HYI.out | (go_simp; with_reducible rfl)); simp only [Act.put, List.setIfInBounds_toArray, List.set_cons_zero, List.set_cons_succ])
    have sm := (Sm.refl wc).drew
    have HV := Lib.hid (show TuI w w.heap.size a1.heap.size a2.heap.size a3.heap.size a4.heap.size a5.heap.size (n) (.slice o1 67 c1) (.slice (some ⟨lg, 0, none⟩) 3 c2) (m) q wc.drew ∧ wc.drew.ownsRow a5.heap.size 23 32 (.slice (some ⟨lg, 0, none⟩) 3 c2) 3 (ofK .u8 P.flatten) ∧ wc.drew.ownsRow a5.heap.size 23 32 (.slice o1 67 c1) 67 (ofK .u8 C.flatten) ∧ Blk wc.drew lg 23 cells from ⟨J1.low (sm.below _), own_ch RW2.out (Ch.of_below (S := fun _ => False) (sm.below _) (Nat.le_refl _)) (fun _ _ h => h), own_ch RW1.out (Ch.of_below (S := fun _ => False) (sm.below _) (Nat.le_refl _)) (fun _ _ h => h), HLB.out.1.below (sm.below _) HLB.out.1.lt⟩)
    clear sm
    generalize wc.drew = v0 at HV ⊢
    refine' wpAnyH_one 12 (by kernel_rfl) ?_ ?_; rotate_left; (simp only [List.getElem?_toArray, List.getElem?_cons_zero, List.getElem?_cons_succ]; rfl)
    go_wp2_with fail
    refine QK.normal ⟨⟨HV.out.1.s.cell 2, (turn8_parts HV.out.1.t).2.1, (turn8_parts HV.out.1.t).2.2⟩, ?_⟩
    refine' wpAnyH_one 13 (by kernel_rfl) ?_ ?_; rotate_left; (simp only [List.getElem?_toArray, List.getElem?_cons_zero, List.getElem?_cons_succ]; rfl)
    refine wpList_store_part v0 rfl 23 (.tmp 58) (.tmp 57) rfl lg (jj * 32) 23 cells (ofK .u8 q.y) HV.out.2.2.2 ?_ rfl ?_ HYI.out (one_ofK _ _) ?_
    focus (first | rfl | (simp; done))
    focus (rw [length_ofK, HYD.out.1]; have := HLB.out.2.1; omega)
    intro u1 hb hc hs
    have HU := Lib.hid (show TuI w w.heap.size a1.heap.size a2.heap.size a3.heap.size a4.heap.size a5.heap.size (n) (.slice o1 67 c1) (.slice (some ⟨lg, 0, none⟩) 3 c2) (m) q u1 ∧ SlD u1 (.slice (some ⟨lg, 0, none⟩) 3 c2) (P.set jj q.y) ∧ u1.ownsRow a5.heap.size 23 32 (.slice o1 67 c1) 67 (ofK .u8 C.flatten) from ⟨HV.out.1.far hc (fun k hk => by have e : k = lg := hk; have := HLB.out.2.2; omega), SlD.set (SlD.of_owns HV.out.2.1 HP.out.2.2.2.symm HP.out.2.2.1) HV.out.2.2.2 jj (by rw [HP.out.2.2.2]; exact hj1) HP.out.2.2.1 HYD.out hb HLB.out.2.1, own_ch HV.out.2.2.1 hc (fun k hk e => by have e : k = lg := e; rw [e] at hk; exact (NE1.out.sym lg rfl) hk)⟩)
    clear hb hc hs
    try simp only [Act.put, List.setIfInBounds_toArray, List.set_cons_zero, List.set_cons_succ]
    refine QK.normal ⟨⟨HU.out.1.s.cell 2, (turn8_parts HU.out.1.t).2.1, (turn8_parts HU.out.1.t).2.2⟩, ?_⟩
    refine wpAnyH_done (by kernel_rfl) ?_ _
    refine NoPanic.normal ?_
    have HFAR := Lib.hid (And.intro (far_own HU.out.2.2) (far_own HV.out.2.1))
    have HFL := Lib.hid (show C.length = 67 ∧ (P.set jj q.y).length = 3 ∧ (∀ x ∈ C, IsD x) ∧ (∀ x ∈ (P.set jj q.y), IsD x) from ⟨by first | exact HC.out.2.2.2 | (rw [List.length_set]; exact HC.out.2.2.2), by first | exact HP.out.2.2.2 | (rw [List.length_set]; exact HP.out.2.2.2), by first | exact HC.out.2.2.1 | exact set_D HC.out.2.2.1 HYD.out, by first | exact HP.out.2.2.1 | exact set_D HP.out.2.2.1 HYD.out⟩)
    clear hj2 hj3 hj4 hw1
    go_wp2_with fail
    refine wp_region_takes (fun w' => w'.rangeAt w.heap.size 0 (sgC n (.slice o1 67 c1) (.slice (some ⟨lg, 0, none⟩) 3 c2)) ∧ w'.rangeAt a1.heap.size 0 (ofK .u8 m)) [0, 1] 2 (by kernel_rfl) rfl (by kernel_rfl) (by kernel_rfl) (⟨rangeW_blk HU.out.1.s, rangeW_blk HU.out.1.m⟩) ?_
    iterate 2 (refine' HeldL.run ?_ ?_ ?_ ?_; rotate_left 2; (simp only [List.getElem?_toArray, List.getElem?_cons_zero, List.getElem?_cons_succ]; rfl); rfl; (rintro w' ⟨k0, k1⟩; first | exact exec_load_mid rfl rfl k0 Try.underlying90 rfl (sgC_info _ _ _) | exact exec_load_mid rfl rfl k1 Try.underlying23 rfl HMI.out); simp only [Act.put, List.setIfInBounds_toArray, List.set_cons_zero, List.set_cons_succ])
    have sm := (Sm.refl u1).drew
    have HZ := Lib.hid (show TuI w w.heap.size a1.heap.size a2.heap.size a3.heap.size a4.heap.size a5.heap.size (n) (.slice o1 67 c1) (.slice (some ⟨lg, 0, none⟩) 3 c2) (m) q u1.drew ∧ SlD u1.drew (.slice o1 67 c1) C ∧ SlD u1.drew (.slice (some ⟨lg, 0, none⟩) 3 c2) (P.set jj q.y) from ⟨HU.out.1.low (sm.below _), (SlD.of_owns HU.out.2.2 HC.out.2.2.2.symm HC.out.2.2.1).below (sm.below _), HU.out.2.1.below (sm.below _)⟩)
    clear sm
    generalize u1.drew = z0 at HZ ⊢
    refine' wpAnyH_one 2 (by kernel_rfl) ?_ ?_; rotate_left; (simp only [List.getElem?_toArray, List.getElem?_cons_zero, List.getElem?_cons_succ]; rfl)
    refine wpList_store_blk z0 rfl 90 (.tmp 6) (.tmp 101) rfl a3.heap.size 90 (sgC 0 (.slice none 0 0) (.slice none 0 0)) (sgC n (.slice o1 67 c1) (.slice (some ⟨lg, 0, none⟩) 3 c2)) HZ.out.1.f1 rfl rfl rfl (sgC_info _ _ _) (sgC_one _ _ _ _ _ _ _) ?_
    intro z1 hb hc hs
    have HY := Lib.hid (show Blk z1 a3.heap.size 90 (sgC n (.slice o1 67 c1) (.slice (some ⟨lg, 0, none⟩) 3 c2)) ∧ Blk z1 a4.heap.size 23 (ofK .u8 zer32) ∧ Blk z1 w.heap.size 90 (sgC n (.slice o1 67 c1) (.slice (some ⟨lg, 0, none⟩) 3 c2)) ∧ Blk z1 a1.heap.size 23 (ofK .u8 m) ∧ Ch (fun k => a3.heap.size ≤ k ∧ k < a5.heap.size) z0 z1 from ⟨hb, HZ.out.1.f2.keep hc (fun e => by have e : a4.heap.size = a3.heap.size := e; have := HZ.out.1.o; omega), HZ.out.1.s.keep hc (fun e => by have e : w.heap.size = a3.heap.size := e; have := HZ.out.1.o; omega), HZ.out.1.m.keep hc (fun e => by have e : a1.heap.size = a3.heap.size := e; have := HZ.out.1.o; omega), hc.mono (fun k hk => by have e : k = a3.heap.size := hk; have := HZ.out.1.o; omega)⟩)
    clear hb hc hs
    try simp only [Act.put, List.setIfInBounds_toArray, List.set_cons_zero, List.set_cons_succ]
    refine QK.normal ⟨⟨rangeW_blk HY.out.2.2.1, rangeW_blk HY.out.2.2.2.1⟩, ?_⟩
    refine' wpAnyH_one 3 (by kernel_rfl) ?_ ?_; rotate_left; (simp only [List.getElem?_toArray, List.getElem?_cons_zero, List.getElem?_cons_succ]; rfl)
    refine wpList_store_blk z1 rfl 23 (.tmp 7) (.tmp 102) rfl a4.heap.size 23 (ofK .u8 zer32) (ofK .u8 m) HY.out.2.1 rfl rfl HML.out HMI.out (one_ofK _ _) ?_
    intro z2 hb hc hs
    have HX := Lib.hid (show Blk z2 a3.heap.size 90 (sgC n (.slice o1 67 c1) (.slice (some ⟨lg, 0, none⟩) 3 c2)) ∧ Blk z2 a4.heap.size 23 (ofK .u8 m) ∧ Blk z2 w.heap.size 90 (sgC n (.slice o1 67 c1) (.slice (some ⟨lg, 0, none⟩) 3 c2)) ∧ Blk z2 a1.heap.size 23 (ofK .u8 m) ∧ Ch (fun k => a3.heap.size ≤ k ∧ k < a5.heap.size) z0 z2 from ⟨HY.out.1.keep hc (fun e => by have e : a3.heap.size = a4.heap.size := e; have := HZ.out.1.o; omega), hb, HY.out.2.2.1.keep hc (fun e => by have e : w.heap.size = a4.heap.size := e; have := HZ.out.1.o; omega), HY.out.2.2.2.1.keep hc (fun e => by have e : a1.heap.size = a4.heap.size := e; have := HZ.out.1.o; omega), HY.out.2.2.2.2.trans (hc.mono (fun k hk => by have e : k = a4.heap.size := hk; have := HZ.out.1.o; omega))⟩)
    clear hb hc hs
    try simp only [Act.put, List.setIfInBounds_toArray, List.set_cons_zero, List.set_cons_succ]
    refine QK.normal ⟨⟨rangeW_blk HX.out.2.2.1, rangeW_blk HX.out.2.2.2.1⟩, ?_⟩
    refine wpAnyH_done (by kernel_rfl) ?_ _
    refine NoPanic.normal ?_
    go_wp2_with fail
    have k1 := SlD.upon HZ.out.2.1 HFAR.out.1 HX.out.2.2.2.2 (fun k hk => hk.2)
    have k2 := SlD.upon HZ.out.2.2 HFAR.out.2 HX.out.2.2.2.2 (fun k hk => hk.2)
    have k3 := HFL.out
    refine bodyPost_ret (results_cc Try.results77 _ _ a3.heap.size a4.heap.size _ _ rfl rfl (run_loadVar_mid (P := Try.prog) _ a3.heap.size 0 90 (sgC n (.slice o1 67 c1) (.slice (some ⟨lg, 0, none⟩) 3 c2)) _ (rangeW_blk HX.out.1) Try.underlying90 rfl (sgC_info _ _ _)) (run_loadVar_mid (P := Try.prog) _ a4.heap.size 0 23 (ofK .u8 m) _ (rangeW_blk HX.out.2.1) Try.underlying23 rfl HMI.out)) rfl ?_
    exact ⟨_, _, _, _, _, _, _, _, by rw [k3.1, k3.2.1], by rw [k3.1]; exact k1, by rw [k3.2.1]; exact k2, k3.2.2.1, k3.2.2.2, HMD.out, below_ch HZ.out.1.bel HX.out.2.2.2.2 (Nat.le_refl _) (fun k hk => by have := HZ.out.1.o; omega)⟩
  · skip
    go_wp2_with fail
    clear kc0 hk
    have hb2 : (IntKind.u64.wrap q.i).tmod 2 = 0 ∨ (IntKind.u64.wrap q.i).tmod 2 = 1 := by
      have h1 : 0 ≤ IntKind.u64.wrap q.i := by rw [IntKind.wrap_u64]; omega
      rw [Int.tmod_eq_emod_of_nonneg h1]; omega
    rcases hb2 with hb2 | hb2
    · skip
      go_wp2_with fail
      refine wp_region_marked (fun w' => w'.cell? ⟨w.heap.size, 1, none⟩ = some (.slice o1 67 c1) ∧ w'.cell? ⟨a2.heap.size, 1, none⟩ = some (.int .i64 q.i) ∧ w'.rangeAt a2.heap.size 2 (ofK .u8 q.y)) 19 [0, 1, 2, 3, 6, 7, 8, 9, 10, 11, 12, 13, 14, 15, 16] 5 (by kernel_rfl) rfl (by kernel_rfl) (by kernel_rfl) (⟨J1.s.cell 1, (turn8_parts J1.t).2.1, (turn8_parts J1.t).2.2⟩) ?_
      iterate 15 (refine' HeldL.run ?_ ?_ ?_ ?_; rotate_left 2; (simp only [List.getElem?_toArray, List.getElem?_cons_zero, List.getElem?_cons_succ]; rfl); rfl; (rintro w' ⟨k0, k1, k2⟩; first | exact exec_load_mid rfl rfl k2 Try.underlying23 rfl HYI.out | (go_simp; with_reducible rfl)); simp only [Act.put, List.setIfInBounds_toArray, List.set_cons_zero, List.set_cons_succ])
      have sm := (Sm.refl wc).drew
      have HV := Lib.hid (show TuI w w.heap.size a1.heap.size a2.heap.size a3.heap.size a4.heap.size a5.heap.size (n) (.slice o1 67 c1) (.slice o2 3 c2) (m) q wc.drew ∧ wc.drew.ownsRow a5.heap.size 23 32 (.slice o1 67 c1) 67 (ofK .u8 C.flatten) ∧ wc.drew.ownsRow a5.heap.size 23 32 (.slice o2 3 c2) 3 (ofK .u8 P.flatten) from ⟨J1.low (sm.below _), own_ch RW1.out (Ch.of_below (S := fun _ => False) (sm.below _) (Nat.le_refl _)) (fun _ _ h => h), own_ch RW2.out (Ch.of_below (S := fun _ => False) (sm.below _) (Nat.le_refl _)) (fun _ _ h => h)⟩)
      clear sm
      generalize wc.drew = v0 at HV ⊢
      refine' wpAnyM_one 4 (by kernel_rfl) ?_ ?_; rotate_left; (simp only [List.getElem?_toArray, List.getElem?_cons_zero, List.getElem?_cons_succ]; rfl)
      refine wpList_slice_one v0 rfl 54 (.tmp 64) rfl Try.underlying54 Try.sizeId Try.zeroId Try.id1 Try.id2 (ofK .u8 q.y) (by rw [length_ofK, HYD.out.1]) rfl ?_
      intro x1 hb hbel hsz
      have HX1 := Lib.hid (show TuI w w.heap.size a1.heap.size a2.heap.size a3.heap.size a4.heap.size a5.heap.size (n) (.slice o1 67 c1) (.slice o2 3 c2) (m) q x1 ∧ x1.ownsRow a5.heap.size 23 32 (.slice o1 67 c1) 67 (ofK .u8 C.flatten) ∧ x1.ownsRow a5.heap.size 23 32 (.slice o2 3 c2) 3 (ofK .u8 P.flatten) ∧ Blk x1 v0.heap.size 23 (ofK .u8 q.y) from ⟨HV.out.1.low hbel, own_ch HV.out.2.1 (Ch.of_below (S := fun _ => False) hbel (Nat.le_refl _)) (fun _ _ h => h), own_ch HV.out.2.2 (Ch.of_below (S := fun _ => False) hbel (Nat.le_refl _)) (fun _ _ h => h), hb⟩)
      clear hb hbel hsz
      simp only [Act.put, List.setIfInBounds_toArray, List.set_cons_zero, List.set_cons_succ]
      refine QK.normal ⟨fun _ => ⟨HX1.out.1.s.cell 1, (turn8_parts HX1.out.1.t).2.1, (turn8_parts HX1.out.1.t).2.2⟩, ?_⟩
      refine' wpAnyM_one 5 (by kernel_rfl) ?_ ?_; rotate_left; (simp only [List.getElem?_toArray, List.getElem?_cons_zero, List.getElem?_cons_succ]; rfl)
      at_builtin
      refine wpList_append_id x1 rfl (.tmp 62) (.tmp 65) rfl a5.heap.size (.slice o1 67 c1) 67 C rfl HX1.out.2.1 v0.heap.size q.y rfl HX1.out.2.2.2 HYD.out (by omega) HX1.out.1.o.2.2.2.2.2.2 ?_
      intro ax cx x2 hown hgr hbl
      have HX2 := Lib.hid (show TuI w w.heap.size a1.heap.size a2.heap.size a3.heap.size a4.heap.size a5.heap.size (n) (.slice o1 67 c1) (.slice o2 3 c2) (m) q x2 ∧ x2.ownsRow a5.heap.size 23 32 (.slice ax 68 cx) 68 (ofK .u8 (C ++ [q.y]).flatten) ∧ x2.ownsRow a5.heap.size 23 32 (.slice o2 3 c2) 3 (ofK .u8 P.flatten) from ⟨HX1.out.1.far (ch_row hgr) (fun k hk => (HX1.out.2.1.lt k hk).1), hown, own_ch HX1.out.2.2.1 (ch_row hgr) (fun k hk h => NE1.out k h hk)⟩)
      clear hown hgr hbl
      simp only [Act.put, List.setIfInBounds_toArray, List.set_cons_zero, List.set_cons_succ]
      refine QK.normal ⟨fun _ => ⟨HX2.out.1.s.cell 1, (turn8_parts HX2.out.1.t).2.1, (turn8_parts HX2.out.1.t).2.2⟩, ?_⟩
      have hsl := SlD.of_owns HX2.out.2.1 (by rw [List.length_append, HC.out.2.2.2]; rfl) (fun x hx => by rcases List.mem_append.1 hx with h | h; exact HC.out.2.2.1 x h; rw [List.mem_singleton.1 h]; exact HYD.out)
      have hcx : 68 ≤ cx ∧ cx ≤ 9223372036854775807 := by obtain ⟨_, _, e, h2, h3, _⟩ := hsl; simp only [Value.slice.injEq] at e; rw [List.length_append, HC.out.2.2.2] at h2; simp at h2; omega
      have hcz : (68 : Int) ≤ (cx : Int) := by omega
      have HSL := Lib.hid (hsl.take 68 (by omega))
      clear hsl
      refine' wpAnyM_one 17 (by kernel_rfl) ?_ ?_; rotate_left; (simp only [List.getElem?_toArray, List.getElem?_cons_zero, List.getElem?_cons_succ]; rfl)
      go_wp2_with fail
      refine QK.normal ⟨fun _ => ⟨HX2.out.1.s.cell 1, (turn8_parts HX2.out.1.t).2.1, (turn8_parts HX2.out.1.t).2.2⟩, ?_⟩
      refine' wpAnyM_one 18 (by kernel_rfl) ?_ ?_; rotate_left; (simp only [List.getElem?_toArray, List.getElem?_cons_zero, List.getElem?_cons_succ]; rfl)
      go_wp2_with fail
      refine QK.normal ⟨fun _ => ⟨HX2.out.1.s.cell 1, (turn8_parts HX2.out.1.t).2.1, (turn8_parts HX2.out.1.t).2.2⟩, ?_⟩
      refine' wpAnyM_one 19 (by kernel_rfl) ?_ ?_; rotate_left; (simp only [List.getElem?_toArray, List.getElem?_cons_zero, List.getElem?_cons_succ]; rfl)
      refine wpList_store1 x2 rfl 54 (.tmp 79) (.tmp 78) rfl w.heap.size 1 90 (sgC n (.slice o1 67 c1) (.slice o2 3 c2)) HX2.out.1.s rfl (.slice ax 68 cx) rfl (by simp [sgC]) Try.sizeIds8 rfl rfl ?_
      intro x3 hb hc hs
      have HX3 := Lib.hid (show TuI w w.heap.size a1.heap.size a2.heap.size a3.heap.size a4.heap.size a5.heap.size (n) (.slice ax 68 cx) (.slice o2 3 c2) (m) q x3 ∧ SlD x3 (.slice ax 68 cx) ((C ++ [q.y]).take 68) ∧ x3.ownsRow a5.heap.size 23 32 (.slice o2 3 c2) 3 (ofK .u8 P.flatten) from ⟨HX2.out.1.setS hb hc, HSL.out.upon (B := a5.heap.size) (far_len (far_own HX2.out.2.1)) hc (fun k hk => by have e : k = w.heap.size := hk; have := HX2.out.1.o; omega), own_upon HX2.out.2.2 hc (fun k hk => by have e : k = w.heap.size := hk; have := HX2.out.1.o; omega)⟩)
      clear hb hc hs
      try simp only [Act.put, List.setIfInBounds_toArray, List.set_cons_zero, List.set_cons_succ]
      refine QK.normal ⟨fun h => absurd h (by decide), ?_⟩
      refine wpAnyM_done (by kernel_rfl) ?_ _
      refine NoPanic.normal ?_
      have HFAR := Lib.hid (And.intro (far_len (n' := 68) (c' := cx) (far_own HX2.out.2.1)) (far_own HX3.out.2.2))
      have HFL := Lib.hid (show ((C ++ [q.y]).take 68).length = 68 ∧ P.length = 3 ∧ (∀ x ∈ ((C ++ [q.y]).take 68), IsD x) ∧ (∀ x ∈ P, IsD x) from ⟨(by rw [List.length_take, List.length_append, HC.out.2.2.2]; rfl), HP.out.2.2.2, (fun x hx => by rcases List.mem_append.1 (List.mem_of_mem_take hx) with h | h; exact HC.out.2.2.1 x h; rw [List.mem_singleton.1 h]; exact HYD.out), HP.out.2.2.1⟩)
      clear hcx hcz hb2
      go_wp2_with fail
      refine wp_region_takes (fun w' => w'.rangeAt w.heap.size 0 (sgC n (.slice ax 68 cx) (.slice o2 3 c2)) ∧ w'.rangeAt a1.heap.size 0 (ofK .u8 m)) [0, 1] 2 (by kernel_rfl) rfl (by kernel_rfl) (by kernel_rfl) (⟨rangeW_blk HX3.out.1.s, rangeW_blk HX3.out.1.m⟩) ?_
      iterate 2 (refine' HeldL.run ?_ ?_ ?_ ?_; rotate_left 2; (simp only [List.getElem?_toArray, List.getElem?_cons_zero, List.getElem?_cons_succ]; rfl); rfl; (rintro w' ⟨k0, k1⟩; first | exact exec_load_mid rfl rfl k0 Try.underlying90 rfl (sgC_info _ _ _) | exact exec_load_mid rfl rfl k1 Try.underlying23 rfl HMI.out); simp only [Act.put, List.setIfInBounds_toArray, List.set_cons_zero, List.set_cons_succ])
      have sm := (Sm.refl x3).drew
      have HZ := Lib.hid (show TuI w w.heap.size a1.heap.size a2.heap.size a3.heap.size a4.heap.size a5.heap.size (n) (.slice ax 68 cx) (.slice o2 3 c2) (m) q x3.drew ∧ SlD x3.drew (.slice ax 68 cx) ((C ++ [q.y]).take 68) ∧ SlD x3.drew (.slice o2 3 c2) P from ⟨HX3.out.1.low (sm.below _), HX3.out.2.1.below (sm.below _), (SlD.of_owns HX3.out.2.2 HP.out.2.2.2.symm HP.out.2.2.1).below (sm.below _)⟩)
      clear sm
      generalize x3.drew = z0 at HZ ⊢
      refine' wpAnyH_one 2 (by kernel_rfl) ?_ ?_; rotate_left; (simp only [List.getElem?_toArray, List.getElem?_cons_zero, List.getElem?_cons_succ]; rfl)
      refine wpList_store_blk z0 rfl 90 (.tmp 6) (.tmp 101) rfl a3.heap.size 90 (sgC 0 (.slice none 0 0) (.slice none 0 0)) (sgC n (.slice ax 68 cx) (.slice o2 3 c2)) HZ.out.1.f1 rfl rfl rfl (sgC_info _ _ _) (sgC_one _ _ _ _ _ _ _) ?_
      intro z1 hb hc hs
      have HY := Lib.hid (show Blk z1 a3.heap.size 90 (sgC n (.slice ax 68 cx) (.slice o2 3 c2)) ∧ Blk z1 a4.heap.size 23 (ofK .u8 zer32) ∧ Blk z1 w.heap.size 90 (sgC n (.slice ax 68 cx) (.slice o2 3 c2)) ∧ Blk z1 a1.heap.size 23 (ofK .u8 m) ∧ Ch (fun k => a3.heap.size ≤ k ∧ k < a5.heap.size) z0 z1 from ⟨hb, HZ.out.1.f2.keep hc (fun e => by have e : a4.heap.size = a3.heap.size := e; have := HZ.out.1.o; omega), HZ.out.1.s.keep hc (fun e => by have e : w.heap.size = a3.heap.size := e; have := HZ.out.1.o; omega), HZ.out.1.m.keep hc (fun e => by have e : a1.heap.size = a3.heap.size := e; have := HZ.out.1.o; omega), hc.mono (fun k hk => by have e : k = a3.heap.size := hk; have := HZ.out.1.o; omega)⟩)
      clear hb hc hs
      try simp only [Act.put, List.setIfInBounds_toArray, List.set_cons_zero, List.set_cons_succ]
      refine QK.normal ⟨⟨rangeW_blk HY.out.2.2.1, rangeW_blk HY.out.2.2.2.1⟩, ?_⟩
      refine' wpAnyH_one 3 (by kernel_rfl) ?_ ?_; rotate_left; (simp only [List.getElem?_toArray, List.getElem?_cons_zero, List.getElem?_cons_succ]; rfl)
      refine wpList_store_blk z1 rfl 23 (.tmp 7) (.tmp 102) rfl a4.heap.size 23 (ofK .u8 zer32) (ofK .u8 m) HY.out.2.1 rfl rfl HML.out HMI.out (one_ofK _ _) ?_
      intro z2 hb hc hs
      have HX := Lib.hid (show Blk z2 a3.heap.size 90 (sgC n (.slice ax 68 cx) (.slice o2 3 c2)) ∧ Blk z2 a4.heap.size 23 (ofK .u8 m) ∧ Blk z2 w.heap.size 90 (sgC n (.slice ax 68 cx) (.slice o2 3 c2)) ∧ Blk z2 a1.heap.size 23 (ofK .u8 m) ∧ Ch (fun k => a3.heap.size ≤ k ∧ k < a5.heap.size) z0 z2 from ⟨HY.out.1.keep hc (fun e => by have e : a3.heap.size = a4.heap.size := e; have := HZ.out.1.o; omega), hb, HY.out.2.2.1.keep hc (fun e => by have e : w.heap.size = a4.heap.size := e; have := HZ.out.1.o; omega), HY.out.2.2.2.1.keep hc (fun e => by have e : a1.heap.size = a4.heap.size := e; have := HZ.out.1.o; omega), HY.out.2.2.2.2.trans (hc.mono (fun k hk => by have e : k = a4.heap.size := hk; have := HZ.out.1.o; omega))⟩)
      clear hb hc hs
      try simp only [Act.put, List.setIfInBounds_toArray, List.set_cons_zero, List.set_cons_succ]
      refine QK.normal ⟨⟨rangeW_blk HX.out.2.2.1, rangeW_blk HX.out.2.2.2.1⟩, ?_⟩
      refine wpAnyH_done (by kernel_rfl) ?_ _
      refine NoPanic.normal ?_
      go_wp2_with fail
      have k1 := SlD.upon HZ.out.2.1 HFAR.out.1 HX.out.2.2.2.2 (fun k hk => hk.2)
      have k2 := SlD.upon HZ.out.2.2 HFAR.out.2 HX.out.2.2.2.2 (fun k hk => hk.2)
      have k3 := HFL.out
      refine bodyPost_ret (results_cc Try.results77 _ _ a3.heap.size a4.heap.size _ _ rfl rfl (run_loadVar_mid (P := Try.prog) _ a3.heap.size 0 90 (sgC n (.slice ax 68 cx) (.slice o2 3 c2)) _ (rangeW_blk HX.out.1) Try.underlying90 rfl (sgC_info _ _ _)) (run_loadVar_mid (P := Try.prog) _ a4.heap.size 0 23 (ofK .u8 m) _ (rangeW_blk HX.out.2.1) Try.underlying23 rfl HMI.out)) rfl ?_
      exact ⟨_, _, _, _, _, _, _, _, by rw [k3.1, k3.2.1], by rw [k3.1]; exact k1, by rw [k3.2.1]; exact k2, k3.2.2.1, k3.2.2.2, HMD.out, below_ch HZ.out.1.bel HX.out.2.2.2.2 (Nat.le_refl _) (fun k hk => by have := HZ.out.1.o; omega)⟩
    · skip
      go_wp2_with fail
      refine wp_region_marked (fun w' => w'.cell? ⟨w.heap.size, 1, none⟩ = some (.slice o1 67 c1) ∧ w'.cell? ⟨a2.heap.size, 1, none⟩ = some (.int .i64 q.i) ∧ w'.rangeAt a2.heap.size 2 (ofK .u8 q.y)) 19 [0, 1, 2, 3, 6, 7, 8, 9, 10, 11, 12, 13, 14, 15, 16] 5 (by kernel_rfl) rfl (by kernel_rfl) (by kernel_rfl) (⟨J1.s.cell 1, (turn8_parts J1.t).2.1, (turn8_parts J1.t).2.2⟩) ?_
      iterate 15 (refine' HeldL.run ?_ ?_ ?_ ?_; rotate_left 2; (simp only [List.getElem?_toArray, List.getElem?_cons_zero, List.getElem?_cons_succ]; rfl); rfl; (rintro w' ⟨k0, k1, k2⟩; first | exact exec_load_mid rfl rfl k2 Try.underlying23 rfl HYI.out | (go_simp; with_reducible rfl)); simp only [Act.put, List.setIfInBounds_toArray, List.set_cons_zero, List.set_cons_succ])
      have sm := (Sm.refl wc).drew
      have HV := Lib.hid (show TuI w w.heap.size a1.heap.size a2.heap.size a3.heap.size a4.heap.size a5.heap.size (n) (.slice o1 67 c1) (.slice o2 3 c2) (m) q wc.drew ∧ wc.drew.ownsRow a5.heap.size 23 32 (.slice o1 67 c1) 67 (ofK .u8 C.flatten) ∧ wc.drew.ownsRow a5.heap.size 23 32 (.slice o2 3 c2) 3 (ofK .u8 P.flatten) from ⟨J1.low (sm.below _), own_ch RW1.out (Ch.of_below (S := fun _ => False) (sm.below _) (Nat.le_refl _)) (fun _ _ h => h), own_ch RW2.out (Ch.of_below (S := fun _ => False) (sm.below _) (Nat.le_refl _)) (fun _ _ h => h)⟩)
      clear sm
      generalize wc.drew = v0 at HV ⊢
      refine' wpAnyM_one 4 (by kernel_rfl) ?_ ?_; rotate_left; (simp only [List.getElem?_toArray, List.getElem?_cons_zero, List.getElem?_cons_succ]; rfl)
      refine wpList_slice_one v0 rfl 54 (.tmp 64) rfl Try.underlying54 Try.sizeId Try.zeroId Try.id1 Try.id2 (ofK .u8 q.y) (by rw [length_ofK, HYD.out.1]) rfl ?_
      intro x1 hb hbel hsz
      have HX1 := Lib.hid (show TuI w w.heap.size a1.heap.size a2.heap.size a3.heap.size a4.heap.size a5.heap.size (n) (.slice o1 67 c1) (.slice o2 3 c2) (m) q x1 ∧ x1.ownsRow a5.heap.size 23 32 (.slice o1 67 c1) 67 (ofK .u8 C.flatten) ∧ x1.ownsRow a5.heap.size 23 32 (.slice o2 3 c2) 3 (ofK .u8 P.flatten) ∧ Blk x1 v0.heap.size 23 (ofK .u8 q.y) from ⟨HV.out.1.low hbel, own_ch HV.out.2.1 (Ch.of_below (S := fun _ => False) hbel (Nat.le_refl _)) (fun _ _ h => h), own_ch HV.out.2.2 (Ch.of_below (S := fun _ => False) hbel (Nat.le_refl _)) (fun _ _ h => h), hb⟩)
      clear hb hbel hsz
      simp only [Act.put, List.setIfInBounds_toArray, List.set_cons_zero, List.set_cons_succ]
      refine QK.normal ⟨fun _ => ⟨HX1.out.1.s.cell 1, (turn8_parts HX1.out.1.t).2.1, (turn8_parts HX1.out.1.t).2.2⟩, ?_⟩
      refine' wpAnyM_one 5 (by kernel_rfl) ?_ ?_; rotate_left; (simp only [List.getElem?_toArray, List.getElem?_cons_zero, List.getElem?_cons_succ]; rfl)
      at_builtin
      refine wpList_append_id x1 rfl (.tmp 62) (.tmp 65) rfl a5.heap.size (.slice o1 67 c1) 67 C rfl HX1.out.2.1 v0.heap.size q.y rfl HX1.out.2.2.2 HYD.out (by omega) HX1.out.1.o.2.2.2.2.2.2 ?_
      intro ax cx x2 hown hgr hbl
      have HX2 := Lib.hid (show TuI w w.heap.size a1.heap.size a2.heap.size a3.heap.size a4.heap.size a5.heap.size (n) (.slice o1 67 c1) (.slice o2 3 c2) (m) q x2 ∧ x2.ownsRow a5.heap.size 23 32 (.slice ax 68 cx) 68 (ofK .u8 (C ++ [q.y]).flatten) ∧ x2.ownsRow a5.heap.size 23 32 (.slice o2 3 c2) 3 (ofK .u8 P.flatten) from ⟨HX1.out.1.far (ch_row hgr) (fun k hk => (HX1.out.2.1.lt k hk).1), hown, own_ch HX1.out.2.2.1 (ch_row hgr) (fun k hk h => NE1.out k h hk)⟩)
      clear hown hgr hbl
      simp only [Act.put, List.setIfInBounds_toArray, List.set_cons_zero, List.set_cons_succ]
      refine QK.normal ⟨fun _ => ⟨HX2.out.1.s.cell 1, (turn8_parts HX2.out.1.t).2.1, (turn8_parts HX2.out.1.t).2.2⟩, ?_⟩
      have hsl := SlD.of_owns HX2.out.2.1 (by rw [List.length_append, HC.out.2.2.2]; rfl) (fun x hx => by rcases List.mem_append.1 hx with h | h; exact HC.out.2.2.1 x h; rw [List.mem_singleton.1 h]; exact HYD.out)
      have hcx : 68 ≤ cx ∧ cx ≤ 9223372036854775807 := by obtain ⟨_, _, e, h2, h3, _⟩ := hsl; simp only [Value.slice.injEq] at e; rw [List.length_append, HC.out.2.2.2] at h2; simp at h2; omega
      have hcz : (66 : Int) ≤ (cx : Int) := by omega
      have HSL := Lib.hid (hsl.take 66 (by omega))
      clear hsl
      refine' wpAnyM_one 17 (by kernel_rfl) ?_ ?_; rotate_left; (simp only [List.getElem?_toArray, List.getElem?_cons_zero, List.getElem?_cons_succ]; rfl)
      go_wp2_with fail
      refine QK.normal ⟨fun _ => ⟨HX2.out.1.s.cell 1, (turn8_parts HX2.out.1.t).2.1, (turn8_parts HX2.out.1.t).2.2⟩, ?_⟩
      refine' wpAnyM_one 18 (by kernel_rfl) ?_ ?_; rotate_left; (simp only [List.getElem?_toArray, List.getElem?_cons_zero, List.getElem?_cons_succ]; rfl)
      go_wp2_with fail
      refine QK.normal ⟨fun _ => ⟨HX2.out.1.s.cell 1, (turn8_parts HX2.out.1.t).2.1, (turn8_parts HX2.out.1.t).2.2⟩, ?_⟩
      refine' wpAnyM_one 19 (by kernel_rfl) ?_ ?_; rotate_left; (simp only [List.getElem?_toArray, List.getElem?_cons_zero, List.getElem?_cons_succ]; rfl)
      refine wpList_store1 x2 rfl 54 (.tmp 79) (.tmp 78) rfl w.heap.size 1 90 (sgC n (.slice o1 67 c1) (.slice o2 3 c2)) HX2.out.1.s rfl (.slice ax 66 cx) rfl (by simp [sgC]) Try.sizeIds8 rfl rfl ?_
      intro x3 hb hc hs
      have HX3 := Lib.hid (show TuI w w.heap.size a1.heap.size a2.heap.size a3.heap.size a4.heap.size a5.heap.size (n) (.slice ax 66 cx) (.slice o2 3 c2) (m) q x3 ∧ SlD x3 (.slice ax 66 cx) ((C ++ [q.y]).take 66) ∧ x3.ownsRow a5.heap.size 23 32 (.slice o2 3 c2) 3 (ofK .u8 P.flatten) from ⟨HX2.out.1.setS hb hc, HSL.out.upon (B := a5.heap.size) (far_len (far_own HX2.out.2.1)) hc (fun k hk => by have e : k = w.heap.size := hk; have := HX2.out.1.o; omega), own_upon HX2.out.2.2 hc (fun k hk => by have e : k = w.heap.size := hk; have := HX2.out.1.o; omega)⟩)
      clear hb hc hs
      try simp only [Act.put, List.setIfInBounds_toArray, List.set_cons_zero, List.set_cons_succ]
      refine QK.normal ⟨fun h => absurd h (by decide), ?_⟩
      refine wpAnyM_done (by kernel_rfl) ?_ _
      refine NoPanic.normal ?_
      have HFAR := Lib.hid (And.intro (far_len (n' := 66) (c' := cx) (far_own HX2.out.2.1)) (far_own HX3.out.2.2))
      have HFL := Lib.hid (show ((C ++ [q.y]).take 66).length = 66 ∧ P.length = 3 ∧ (∀ x ∈ ((C ++ [q.y]).take 66), IsD x) ∧ (∀ x ∈ P, IsD x) from ⟨(by rw [List.length_take, List.length_append, HC.out.2.2.2]; rfl), HP.out.2.2.2, (fun x hx => by rcases List.mem_append.1 (List.mem_of_mem_take hx) with h | h; exact HC.out.2.2.1 x h; rw [List.mem_singleton.1 h]; exact HYD.out), HP.out.2.2.1⟩)
      clear hcx hcz hb2
      go_wp2_with fail
      refine wp_region_takes (fun w' => w'.rangeAt w.heap.size 0 (sgC n (.slice ax 66 cx) (.slice o2 3 c2)) ∧ w'.rangeAt a1.heap.size 0 (ofK .u8 m)) [0, 1] 2 (by kernel_rfl) rfl (by kernel_rfl) (by kernel_rfl) (⟨rangeW_blk HX3.out.1.s, rangeW_blk HX3.out.1.m⟩) ?_
      iterate 2 (refine' HeldL.run ?_ ?_ ?_ ?_; rotate_left 2; (simp only [List.getElem?_toArray, List.getElem?_cons_zero, List.getElem?_cons_succ]; rfl); rfl; (rintro w' ⟨k0, k1⟩; first | exact exec_load_mid rfl rfl k0 Try.underlying90 rfl (sgC_info _ _ _) | exact exec_load_mid rfl rfl k1 Try.underlying23 rfl HMI.out); simp only [Act.put, List.setIfInBounds_toArray, List.set_cons_zero, List.set_cons_succ])
      have sm := (Sm.refl x3).drew
      have HZ := Lib.hid (show TuI w w.heap.size a1.heap.size a2.heap.size a3.heap.size a4.heap.size a5.heap.size (n) (.slice ax 66 cx) (.slice o2 3 c2) (m) q x3.drew ∧ SlD x3.drew (.slice ax 66 cx) ((C ++ [q.y]).take 66) ∧ SlD x3.drew (.slice o2 3 c2) P from ⟨HX3.out.1.low (sm.below _), HX3.out.2.1.below (sm.below _), (SlD.of_owns HX3.out.2.2 HP.out.2.2.2.symm HP.out.2.2.1).below (sm.below _)⟩)
      clear sm
      generalize x3.drew = z0 at HZ ⊢
      refine' wpAnyH_one 2 (by kernel_rfl) ?_ ?_; rotate_left; (simp only [List.getElem?_toArray, List.getElem?_cons_zero, List.getElem?_cons_succ]; rfl)
      refine wpList_store_blk z0 rfl 90 (.tmp 6) (.tmp 101) rfl a3.heap.size 90 (sgC 0 (.slice none 0 0) (.slice none 0 0)) (sgC n (.slice ax 66 cx) (.slice o2 3 c2)) HZ.out.1.f1 rfl rfl rfl (sgC_info _ _ _) (sgC_one _ _ _ _ _ _ _) ?_
      intro z1 hb hc hs
      have HY := Lib.hid (show Blk z1 a3.heap.size 90 (sgC n (.slice ax 66 cx) (.slice o2 3 c2)) ∧ Blk z1 a4.heap.size 23 (ofK .u8 zer32) ∧ Blk z1 w.heap.size 90 (sgC n (.slice ax 66 cx) (.slice o2 3 c2)) ∧ Blk z1 a1.heap.size 23 (ofK .u8 m) ∧ Ch (fun k => a3.heap.size ≤ k ∧ k < a5.heap.size) z0 z1 from ⟨hb, HZ.out.1.f2.keep hc (fun e => by have e : a4.heap.size = a3.heap.size := e; have := HZ.out.1.o; omega), HZ.out.1.s.keep hc (fun e => by have e : w.heap.size = a3.heap.size := e; have := HZ.out.1.o; omega), HZ.out.1.m.keep hc (fun e => by have e : a1.heap.size = a3.heap.size := e; have := HZ.out.1.o; omega), hc.mono (fun k hk => by have e : k = a3.heap.size := hk; have := HZ.out.1.o; omega)⟩)
      clear hb hc hs
      try simp only [Act.put, List.setIfInBounds_toArray, List.set_cons_zero, List.set_cons_succ]
      refine QK.normal ⟨⟨rangeW_blk HY.out.2.2.1, rangeW_blk HY.out.2.2.2.1⟩, ?_⟩
      refine' wpAnyH_one 3 (by kernel_rfl) ?_ ?_; rotate_left; (simp only [List.getElem?_toArray, List.getElem?_cons_zero, List.getElem?_cons_succ]; rfl)
      refine wpList_store_blk z1 rfl 23 (.tmp 7) (.tmp 102) rfl a4.heap.size 23 (ofK .u8 zer32) (ofK .u8 m) HY.out.2.1 rfl rfl HML.out HMI.out (one_ofK _ _) ?_
      intro z2 hb hc hs
      have HX := Lib.hid (show Blk z2 a3.heap.size 90 (sgC n (.slice ax 66 cx) (.slice o2 3 c2)) ∧ Blk z2 a4.heap.size 23 (ofK .u8 m) ∧ Blk z2 w.heap.size 90 (sgC n (.slice ax 66 cx) (.slice o2 3 c2)) ∧ Blk z2 a1.heap.size 23 (ofK .u8 m) ∧ Ch (fun k => a3.heap.size ≤ k ∧ k < a5.heap.size) z0 z2 from ⟨HY.out.1.keep hc (fun e => by have e : a3.heap.size = a4.heap.size := e; have := HZ.out.1.o; omega), hb, HY.out.2.2.1.keep hc (fun e => by have e : w.heap.size = a4.heap.size := e; have := HZ.out.1.o; omega), HY.out.2.2.2.1.keep hc (fun e => by have e : a1.heap.size = a4.heap.size := e; have := HZ.out.1.o; omega), HY.out.2.2.2.2.trans (hc.mono (fun k hk => by have e : k = a4.heap.size := hk; have := HZ.out.1.o; omega))⟩)
      clear hb hc hs
      try simp only [Act.put, List.setIfInBounds_toArray, List.set_cons_zero, List.set_cons_succ]
      refine QK.normal ⟨⟨rangeW_blk HX.out.2.2.1, rangeW_blk HX.out.2.2.2.1⟩, ?_⟩
      refine wpAnyH_done (by kernel_rfl) ?_ _
      refine NoPanic.normal ?_
      go_wp2_with fail
      have k1 := SlD.upon HZ.out.2.1 HFAR.out.1 HX.out.2.2.2.2 (fun k hk => hk.2)
      have k2 := SlD.upon HZ.out.2.2 HFAR.out.2 HX.out.2.2.2.2 (fun k hk => hk.2)
      have k3 := HFL.out
      refine bodyPost_ret (results_cc Try.results77 _ _ a3.heap.size a4.heap.size _ _ rfl rfl (run_loadVar_mid (P := Try.prog) _ a3.heap.size 0 90 (sgC n (.slice ax 66 cx) (.slice o2 3 c2)) _ (rangeW_blk HX.out.1) Try.underlying90 rfl (sgC_info _ _ _)) (run_loadVar_mid (P := Try.prog) _ a4.heap.size 0 23 (ofK .u8 m) _ (rangeW_blk HX.out.2.1) Try.underlying23 rfl HMI.out)) rfl ?_
      exact ⟨_, _, _, _, _, _, _, _, by rw [k3.1, k3.2.1], by rw [k3.1]; exact k1, by rw [k3.2.1]; exact k2, k3.2.2.1, k3.2.2.2, HMD.out, below_ch HZ.out.1.bel HX.out.2.2.2.2 (Nat.le_refl _) (fun k hk => by have := HZ.out.1.o; omega)⟩
  · skip
    go_wp2_with fail
    clear kc0 hk
    have hb2 : (IntKind.u64.wrap q.i).tmod 2 = 0 ∨ (IntKind.u64.wrap q.i).tmod 2 = 1 := by
      have h1 : 0 ≤ IntKind.u64.wrap q.i := by rw [IntKind.wrap_u64]; omega
      rw [Int.tmod_eq_emod_of_nonneg h1]; omega
    rcases hb2 with hb2 | hb2
    · skip
      go_wp2_with fail
      refine wp_region_marked (fun w' => w'.cell? ⟨w.heap.size, 2, none⟩ = some (.slice o2 3 c2) ∧ w'.cell? ⟨a2.heap.size, 1, none⟩ = some (.int .i64 q.i) ∧ w'.rangeAt a2.heap.size 2 (ofK .u8 q.y)) 19 [0, 1, 2, 3, 6, 7, 8, 9, 10, 11, 12, 13, 14, 15, 16] 5 (by kernel_rfl) rfl (by kernel_rfl) (by kernel_rfl) (⟨J1.s.cell 2, (turn8_parts J1.t).2.1, (turn8_parts J1.t).2.2⟩) ?_
      iterate 15 (refine' HeldL.run ?_ ?_ ?_ ?_; rotate_left 2; (simp only [List.getElem?_toArray, List.getElem?_cons_zero, List.getElem?_cons_succ]; rfl); rfl; (rintro w' ⟨k0, k1, k2⟩; first | exact exec_load_mid rfl rfl k2 Try.underlying23 rfl HYI.out | (go_simp; with_reducible rfl)); simp only [Act.put, List.setIfInBounds_toArray, List.set_cons_zero, List.set_cons_succ])
      have sm := (Sm.refl wc).drew
      have HV := Lib.hid (show TuI w w.heap.size a1.heap.size a2.heap.size a3.heap.size a4.heap.size a5.heap.size (n) (.slice o1 67 c1) (.slice o2 3 c2) (m) q wc.drew ∧ wc.drew.ownsRow a5.heap.size 23 32 (.slice o2 3 c2) 3 (ofK .u8 P.flatten) ∧ wc.drew.ownsRow a5.heap.size 23 32 (.slice o1 67 c1) 67 (ofK .u8 C.flatten) from ⟨J1.low (sm.below _), own_ch RW2.out (Ch.of_below (S := fun _ => False) (sm.below _) (Nat.le_refl _)) (fun _ _ h => h), own_ch RW1.out (Ch.of_below (S := fun _ => False) (sm.below _) (Nat.le_refl _)) (fun _ _ h => h)⟩)
      clear sm
      generalize wc.drew = v0 at HV ⊢
      refine' wpAnyM_one 4 (by kernel_rfl) ?_ ?_; rotate_left; (simp only [List.getElem?_toArray, List.getElem?_cons_zero, List.getElem?_cons_succ]; rfl)
      refine wpList_slice_one v0 rfl 54 (.tmp 85) rfl Try.underlying54 Try.sizeId Try.zeroId Try.id1 Try.id2 (ofK .u8 q.y) (by rw [length_ofK, HYD.out.1]) rfl ?_
      intro x1 hb hbel hsz
      have HX1 := Lib.hid (show TuI w w.heap.size a1.heap.size a2.heap.size a3.heap.size a4.heap.size a5.heap.size (n) (.slice o1 67 c1) (.slice o2 3 c2) (m) q x1 ∧ x1.ownsRow a5.heap.size 23 32 (.slice o2 3 c2) 3 (ofK .u8 P.flatten) ∧ x1.ownsRow a5.heap.size 23 32 (.slice o1 67 c1) 67 (ofK .u8 C.flatten) ∧ Blk x1 v0.heap.size 23 (ofK .u8 q.y) from ⟨HV.out.1.low hbel, own_ch HV.out.2.1 (Ch.of_below (S := fun _ => False) hbel (Nat.le_refl _)) (fun _ _ h => h), own_ch HV.out.2.2 (Ch.of_below (S := fun _ => False) hbel (Nat.le_refl _)) (fun _ _ h => h), hb⟩)
      clear hb hbel hsz
      simp only [Act.put, List.setIfInBounds_toArray, List.set_cons_zero, List.set_cons_succ]
      refine QK.normal ⟨fun _ => ⟨HX1.out.1.s.cell 2, (turn8_parts HX1.out.1.t).2.1, (turn8_parts HX1.out.1.t).2.2⟩, ?_⟩
      refine' wpAnyM_one 5 (by kernel_rfl) ?_ ?_; rotate_left; (simp only [List.getElem?_toArray, List.getElem?_cons_zero, List.getElem?_cons_succ]; rfl)
      at_builtin
      refine wpList_append_id x1 rfl (.tmp 83) (.tmp 86) rfl a5.heap.size (.slice o2 3 c2) 3 P rfl HX1.out.2.1 v0.heap.size q.y rfl HX1.out.2.2.2 HYD.out (by omega) HX1.out.1.o.2.2.2.2.2.2 ?_
      intro ax cx x2 hown hgr hbl
      have HX2 := Lib.hid (show TuI w w.heap.size a1.heap.size a2.heap.size a3.heap.size a4.heap.size a5.heap.size (n) (.slice o1 67 c1) (.slice o2 3 c2) (m) q x2 ∧ x2.ownsRow a5.heap.size 23 32 (.slice ax 4 cx) 4 (ofK .u8 (P ++ [q.y]).flatten) ∧ x2.ownsRow a5.heap.size 23 32 (.slice o1 67 c1) 67 (ofK .u8 C.flatten) from ⟨HX1.out.1.far (ch_row hgr) (fun k hk => (HX1.out.2.1.lt k hk).1), hown, own_ch HX1.out.2.2.1 (ch_row hgr) (fun k hk h => NE1.out.sym k h hk)⟩)
      clear hown hgr hbl
      simp only [Act.put, List.setIfInBounds_toArray, List.set_cons_zero, List.set_cons_succ]
      refine QK.normal ⟨fun _ => ⟨HX2.out.1.s.cell 2, (turn8_parts HX2.out.1.t).2.1, (turn8_parts HX2.out.1.t).2.2⟩, ?_⟩
      have hsl := SlD.of_owns HX2.out.2.1 (by rw [List.length_append, HP.out.2.2.2]; rfl) (fun x hx => by rcases List.mem_append.1 hx with h | h; exact HP.out.2.2.1 x h; rw [List.mem_singleton.1 h]; exact HYD.out)
      have hcx : 4 ≤ cx ∧ cx ≤ 9223372036854775807 := by obtain ⟨_, _, e, h2, h3, _⟩ := hsl; simp only [Value.slice.injEq] at e; rw [List.length_append, HP.out.2.2.2] at h2; simp at h2; omega
      have hcz : (4 : Int) ≤ (cx : Int) := by omega
      have HSL := Lib.hid (hsl.take 4 (by omega))
      clear hsl
      refine' wpAnyM_one 17 (by kernel_rfl) ?_ ?_; rotate_left; (simp only [List.getElem?_toArray, List.getElem?_cons_zero, List.getElem?_cons_succ]; rfl)
      go_wp2_with fail
      refine QK.normal ⟨fun _ => ⟨HX2.out.1.s.cell 2, (turn8_parts HX2.out.1.t).2.1, (turn8_parts HX2.out.1.t).2.2⟩, ?_⟩
      refine' wpAnyM_one 18 (by kernel_rfl) ?_ ?_; rotate_left; (simp only [List.getElem?_toArray, List.getElem?_cons_zero, List.getElem?_cons_succ]; rfl)
      go_wp2_with fail
      refine QK.normal ⟨fun _ => ⟨HX2.out.1.s.cell 2, (turn8_parts HX2.out.1.t).2.1, (turn8_parts HX2.out.1.t).2.2⟩, ?_⟩
      refine' wpAnyM_one 19 (by kernel_rfl) ?_ ?_; rotate_left; (simp only [List.getElem?_toArray, List.getElem?_cons_zero, List.getElem?_cons_succ]; rfl)
      refine wpList_store1 x2 rfl 54 (.tmp 100) (.tmp 99) rfl w.heap.size 2 90 (sgC n (.slice o1 67 c1) (.slice o2 3 c2)) HX2.out.1.s rfl (.slice ax 4 cx) rfl (by simp [sgC]) Try.sizeIds8 rfl rfl ?_
      intro x3 hb hc hs
      have HX3 := Lib.hid (show TuI w w.heap.size a1.heap.size a2.heap.size a3.heap.size a4.heap.size a5.heap.size (n) (.slice o1 67 c1) (.slice ax 4 cx) (m) q x3 ∧ SlD x3 (.slice ax 4 cx) ((P ++ [q.y]).take 4) ∧ x3.ownsRow a5.heap.size 23 32 (.slice o1 67 c1) 67 (ofK .u8 C.flatten) from ⟨HX2.out.1.setS hb hc, HSL.out.upon (B := a5.heap.size) (far_len (far_own HX2.out.2.1)) hc (fun k hk => by have e : k = w.heap.size := hk; have := HX2.out.1.o; omega), own_upon HX2.out.2.2 hc (fun k hk => by have e : k = w.heap.size := hk; have := HX2.out.1.o; omega)⟩)
      clear hb hc hs
      try simp only [Act.put, List.setIfInBounds_toArray, List.set_cons_zero, List.set_cons_succ]
      refine QK.normal ⟨fun h => absurd h (by decide), ?_⟩
      refine wpAnyM_done (by kernel_rfl) ?_ _
      refine NoPanic.normal ?_
      have HFAR := Lib.hid (And.intro (far_own HX3.out.2.2) (far_len (n' := 4) (c' := cx) (far_own HX2.out.2.1)))
      have HFL := Lib.hid (show C.length = 67 ∧ ((P ++ [q.y]).take 4).length = 4 ∧ (∀ x ∈ C, IsD x) ∧ (∀ x ∈ ((P ++ [q.y]).take 4), IsD x) from ⟨HC.out.2.2.2, (by rw [List.length_take, List.length_append, HP.out.2.2.2]; rfl), HC.out.2.2.1, (fun x hx => by rcases List.mem_append.1 (List.mem_of_mem_take hx) with h | h; exact HP.out.2.2.1 x h; rw [List.mem_singleton.1 h]; exact HYD.out)⟩)
      clear hcx hcz hb2
      go_wp2_with fail
      refine wp_region_takes (fun w' => w'.rangeAt w.heap.size 0 (sgC n (.slice o1 67 c1) (.slice ax 4 cx)) ∧ w'.rangeAt a1.heap.size 0 (ofK .u8 m)) [0, 1] 2 (by kernel_rfl) rfl (by kernel_rfl) (by kernel_rfl) (⟨rangeW_blk HX3.out.1.s, rangeW_blk HX3.out.1.m⟩) ?_
      iterate 2 (refine' HeldL.run ?_ ?_ ?_ ?_; rotate_left 2; (simp only [List.getElem?_toArray, List.getElem?_cons_zero, List.getElem?_cons_succ]; rfl); rfl; (rintro w' ⟨k0, k1⟩; first | exact exec_load_mid rfl rfl k0 Try.underlying90 rfl (sgC_info _ _ _) | exact exec_load_mid rfl rfl k1 Try.underlying23 rfl HMI.out); simp only [Act.put, List.setIfInBounds_toArray, List.set_cons_zero, List.set_cons_succ])
      have sm := (Sm.refl x3).drew
      have HZ := Lib.hid (show TuI w w.heap.size a1.heap.size a2.heap.size a3.heap.size a4.heap.size a5.heap.size (n) (.slice o1 67 c1) (.slice ax 4 cx) (m) q x3.drew ∧ SlD x3.drew (.slice o1 67 c1) C ∧ SlD x3.drew (.slice ax 4 cx) ((P ++ [q.y]).take 4) from ⟨HX3.out.1.low (sm.below _), (SlD.of_owns HX3.out.2.2 HC.out.2.2.2.symm HC.out.2.2.1).below (sm.below _), HX3.out.2.1.below (sm.below _)⟩)
      clear sm
      generalize x3.drew = z0 at HZ ⊢
      refine' wpAnyH_one 2 (by kernel_rfl) ?_ ?_; rotate_left; (simp only [List.getElem?_toArray, List.getElem?_cons_zero, List.getElem?_cons_succ]; rfl)
      refine wpList_store_blk z0 rfl 90 (.tmp 6) (.tmp 101) rfl a3.heap.size 90 (sgC 0 (.slice none 0 0) (.slice none 0 0)) (sgC n (.slice o1 67 c1) (.slice ax 4 cx)) HZ.out.1.f1 rfl rfl rfl (sgC_info _ _ _) (sgC_one _ _ _ _ _ _ _) ?_
      intro z1 hb hc hs
      have HY := Lib.hid (show Blk z1 a3.heap.size 90 (sgC n (.slice o1 67 c1) (.slice ax 4 cx)) ∧ Blk z1 a4.heap.size 23 (ofK .u8 zer32) ∧ Blk z1 w.heap.size 90 (sgC n (.slice o1 67 c1) (.slice ax 4 cx)) ∧ Blk z1 a1.heap.size 23 (ofK .u8 m) ∧ Ch (fun k => a3.heap.size ≤ k ∧ k < a5.heap.size) z0 z1 from ⟨hb, HZ.out.1.f2.keep hc (fun e => by have e : a4.heap.size = a3.heap.size := e; have := HZ.out.1.o; omega), HZ.out.1.s.keep hc (fun e => by have e : w.heap.size = a3.heap.size := e; have := HZ.out.1.o; omega), HZ.out.1.m.keep hc (fun e => by have e : a1.heap.size = a3.heap.size := e; have := HZ.out.1.o; omega), hc.mono (fun k hk => by have e : k = a3.heap.size := hk; have := HZ.out.1.o; omega)⟩)
      clear hb hc hs
      try simp only [Act.put, List.setIfInBounds_toArray, List.set_cons_zero, List.set_cons_succ]
      refine QK.normal ⟨⟨rangeW_blk HY.out.2.2.1, rangeW_blk HY.out.2.2.2.1⟩, ?_⟩
      refine' wpAnyH_one 3 (by kernel_rfl) ?_ ?_; rotate_left; (simp only [List.getElem?_toArray, List.getElem?_cons_zero, List.getElem?_cons_succ]; rfl)
      refine wpList_store_blk z1 rfl 23 (.tmp 7) (.tmp 102) rfl a4.heap.size 23 (ofK .u8 zer32) (ofK .u8 m) HY.out.2.1 rfl rfl HML.out HMI.out (one_ofK _ _) ?_
      intro z2 hb hc hs
      have HX := Lib.hid (show Blk z2 a3.heap.size 90 (sgC n (.slice o1 67 c1) (.slice ax 4 cx)) ∧ Blk z2 a4.heap.size 23 (ofK .u8 m) ∧ Blk z2 w.heap.size 90 (sgC n (.slice o1 67 c1) (.slice ax 4 cx)) ∧ Blk z2 a1.heap.size 23 (ofK .u8 m) ∧ Ch (fun k => a3.heap.size ≤ k ∧ k < a5.heap.size) z0 z2 from ⟨HY.out.1.keep hc (fun e => by have e : a3.heap.size = a4.heap.size := e; have := HZ.out.1.o; omega), hb, HY.out.2.2.1.keep hc (fun e => by have e : w.heap.size = a4.heap.size := e; have := HZ.out.1.o; omega), HY.out.2.2.2.1.keep hc (fun e => by have e : a1.heap.size = a4.heap.size := e; have := HZ.out.1.o; omega), HY.out.2.2.2.2.trans (hc.mono (fun k hk => by have e : k = a4.heap.size := hk; have := HZ.out.1.o; omega))⟩)
      clear hb hc hs
      try simp only [Act.put, List.setIfInBounds_toArray, List.set_cons_zero, List.set_cons_succ]
      refine QK.normal ⟨⟨rangeW_blk HX.out.2.2.1, rangeW_blk HX.out.2.2.2.1⟩, ?_⟩
      refine wpAnyH_done (by kernel_rfl) ?_ _
      refine NoPanic.normal ?_
      go_wp2_with fail
      have k1 := SlD.upon HZ.out.2.1 HFAR.out.1 HX.out.2.2.2.2 (fun k hk => hk.2)
      have k2 := SlD.upon HZ.out.2.2 HFAR.out.2 HX.out.2.2.2.2 (fun k hk => hk.2)
      have k3 := HFL.out
      refine bodyPost_ret (results_cc Try.results77 _ _ a3.heap.size a4.heap.size _ _ rfl rfl (run_loadVar_mid (P := Try.prog) _ a3.heap.size 0 90 (sgC n (.slice o1 67 c1) (.slice ax 4 cx)) _ (rangeW_blk HX.out.1) Try.underlying90 rfl (sgC_info _ _ _)) (run_loadVar_mid (P := Try.prog) _ a4.heap.size 0 23 (ofK .u8 m) _ (rangeW_blk HX.out.2.1) Try.underlying23 rfl HMI.out)) rfl ?_
      exact ⟨_, _, _, _, _, _, _, _, by rw [k3.1, k3.2.1], by rw [k3.1]; exact k1, by rw [k3.2.1]; exact k2, k3.2.2.1, k3.2.2.2, HMD.out, below_ch HZ.out.1.bel HX.out.2.2.2.2 (Nat.le_refl _) (fun k hk => by have := HZ.out.1.o; omega)⟩
    · skip
      go_wp2_with fail
      refine wp_region_marked (fun w' => w'.cell? ⟨w.heap.size, 2, none⟩ = some (.slice o2 3 c2) ∧ w'.cell? ⟨a2.heap.size, 1, none⟩ = some (.int .i64 q.i) ∧ w'.rangeAt a2.heap.size 2 (ofK .u8 q.y)) 19 [0, 1, 2, 3, 6, 7, 8, 9, 10, 11, 12, 13, 14, 15, 16] 5 (by kernel_rfl) rfl (by kernel_rfl) (by kernel_rfl) (⟨J1.s.cell 2, (turn8_parts J1.t).2.1, (turn8_parts J1.t).2.2⟩) ?_
      iterate 15 (refine' HeldL.run ?_ ?_ ?_ ?_; rotate_left 2; (simp only [List.getElem?_toArray, List.getElem?_cons_zero, List.getElem?_cons_succ]; rfl); rfl; (rintro w' ⟨k0, k1, k2⟩; first | exact exec_load_mid rfl rfl k2 Try.underlying23 rfl HYI.out | (go_simp; with_reducible rfl)); simp only [Act.put, List.setIfInBounds_toArray, List.set_cons_zero, List.set_cons_succ])
      have sm := (Sm.refl wc).drew
      have HV := Lib.hid (show TuI w w.heap.size a1.heap.size a2.heap.size a3.heap.size a4.heap.size a5.heap.size (n) (.slice o1 67 c1) (.slice o2 3 c2) (m) q wc.drew ∧ wc.drew.ownsRow a5.heap.size 23 32 (.slice o2 3 c2) 3 (ofK .u8 P.flatten) ∧ wc.drew.ownsRow a5.heap.size 23 32 (.slice o1 67 c1) 67 (ofK .u8 C.flatten) from ⟨J1.low (sm.below _), own_ch RW2.out (Ch.of_below (S := fun _ => False) (sm.below _) (Nat.le_refl _)) (fun _ _ h => h), own_ch RW1.out (Ch.of_below (S := fun _ => False) (sm.below _) (Nat.le_refl _)) (fun _ _ h => h)⟩)
      clear sm
      generalize wc.drew = v0 at HV ⊢
      refine' wpAnyM_one 4 (by kernel_rfl) ?_ ?_; rotate_left; (simp only [List.getElem?_toArray, List.getElem?_cons_zero, List.getElem?_cons_succ]; rfl)
      refine wpList_slice_one v0 rfl 54 (.tmp 85) rfl Try.underlying54 Try.sizeId Try.zeroId Try.id1 Try.id2 (ofK .u8 q.y) (by rw [length_ofK, HYD.out.1]) rfl ?_
      intro x1 hb hbel hsz
      have HX1 := Lib.hid (show TuI w w.heap.size a1.heap.size a2.heap.size a3.heap.size a4.heap.size a5.heap.size (n) (.slice o1 67 c1) (.slice o2 3 c2) (m) q x1 ∧ x1.ownsRow a5.heap.size 23 32 (.slice o2 3 c2) 3 (ofK .u8 P.flatten) ∧ x1.ownsRow a5.heap.size 23 32 (.slice o1 67 c1) 67 (ofK .u8 C.flatten) ∧ Blk x1 v0.heap.size 23 (ofK .u8 q.y) from ⟨HV.out.1.low hbel, own_ch HV.out.2.1 (Ch.of_below (S := fun _ => False) hbel (Nat.le_refl _)) (fun _ _ h => h), own_ch HV.out.2.2 (Ch.of_below (S := fun _ => False) hbel (Nat.le_refl _)) (fun _ _ h => h), hb⟩)
      clear hb hbel hsz
      simp only [Act.put, List.setIfInBounds_toArray, List.set_cons_zero, List.set_cons_succ]
      refine QK.normal ⟨fun _ => ⟨HX1.out.1.s.cell 2, (turn8_parts HX1.out.1.t).2.1, (turn8_parts HX1.out.1.t).2.2⟩, ?_⟩
      refine' wpAnyM_one 5 (by kernel_rfl) ?_ ?_; rotate_left; (simp only [List.getElem?_toArray, List.getElem?_cons_zero, List.getElem?_cons_succ]; rfl)
      at_builtin
      refine wpList_append_id x1 rfl (.tmp 83) (.tmp 86) rfl a5.heap.size (.slice o2 3 c2) 3 P rfl HX1.out.2.1 v0.heap.size q.y rfl HX1.out.2.2.2 HYD.out (by omega) HX1.out.1.o.2.2.2.2.2.2 ?_
      intro ax cx x2 hown hgr hbl
      have HX2 := Lib.hid (show TuI w w.heap.size a1.heap.size a2.heap.size a3.heap.size a4.heap.size a5.heap.size (n) (.slice o1 67 c1) (.slice o2 3 c2) (m) q x2 ∧ x2.ownsRow a5.heap.size 23 32 (.slice ax 4 cx) 4 (ofK .u8 (P ++ [q.y]).flatten) ∧ x2.ownsRow a5.heap.size 23 32 (.slice o1 67 c1) 67 (ofK .u8 C.flatten) from ⟨HX1.out.1.far (ch_row hgr) (fun k hk => (HX1.out.2.1.lt k hk).1), hown, own_ch HX1.out.2.2.1 (ch_row hgr) (fun k hk h => NE1.out.sym k h hk)⟩)
      clear hown hgr hbl
      simp only [Act.put, List.setIfInBounds_toArray, List.set_cons_zero, List.set_cons_succ]
      refine QK.normal ⟨fun _ => ⟨HX2.out.1.s.cell 2, (turn8_parts HX2.out.1.t).2.1, (turn8_parts HX2.out.1.t).2.2⟩, ?_⟩
      have hsl := SlD.of_owns HX2.out.2.1 (by rw [List.length_append, HP.out.2.2.2]; rfl) (fun x hx => by rcases List.mem_append.1 hx with h | h; exact HP.out.2.2.1 x h; rw [List.mem_singleton.1 h]; exact HYD.out)
      have hcx : 4 ≤ cx ∧ cx ≤ 9223372036854775807 := by obtain ⟨_, _, e, h2, h3, _⟩ := hsl; simp only [Value.slice.injEq] at e; rw [List.length_append, HP.out.2.2.2] at h2; simp at h2; omega
      have hcz : (2 : Int) ≤ (cx : Int) := by omega
      have HSL := Lib.hid (hsl.take 2 (by omega))
      clear hsl
      refine' wpAnyM_one 17 (by kernel_rfl) ?_ ?_; rotate_left; (simp only [List.getElem?_toArray, List.getElem?_cons_zero, List.getElem?_cons_succ]; rfl)
      go_wp2_with fail
      refine QK.normal ⟨fun _ => ⟨HX2.out.1.s.cell 2, (turn8_parts HX2.out.1.t).2.1, (turn8_parts HX2.out.1.t).2.2⟩, ?_⟩
      refine' wpAnyM_one 18 (by kernel_rfl) ?_ ?_; rotate_left; (simp only [List.getElem?_toArray, List.getElem?_cons_zero, List.getElem?_cons_succ]; rfl)
      go_wp2_with fail
      refine QK.normal ⟨fun _ => ⟨HX2.out.1.s.cell 2, (turn8_parts HX2.out.1.t).2.1, (turn8_parts HX2.out.1.t).2.2⟩, ?_⟩
      refine' wpAnyM_one 19 (by kernel_rfl) ?_ ?_; rotate_left; (simp only [List.getElem?_toArray, List.getElem?_cons_zero, List.getElem?_cons_succ]; rfl)
      refine wpList_store1 x2 rfl 54 (.tmp 100) (.tmp 99) rfl w.heap.size 2 90 (sgC n (.slice o1 67 c1) (.slice o2 3 c2)) HX2.out.1.s rfl (.slice ax 2 cx) rfl (by simp [sgC]) Try.sizeIds8 rfl rfl ?_
      intro x3 hb hc hs
      have HX3 := Lib.hid (show TuI w w.heap.size a1.heap.size a2.heap.size a3.heap.size a4.heap.size a5.heap.size (n) (.slice o1 67 c1) (.slice ax 2 cx) (m) q x3 ∧ SlD x3 (.slice ax 2 cx) ((P ++ [q.y]).take 2) ∧ x3.ownsRow a5.heap.size 23 32 (.slice o1 67 c1) 67 (ofK .u8 C.flatten) from ⟨HX2.out.1.setS hb hc, HSL.out.upon (B := a5.heap.size) (far_len (far_own HX2.out.2.1)) hc (fun k hk => by have e : k = w.heap.size := hk; have := HX2.out.1.o; omega), own_upon HX2.out.2.2 hc (fun k hk => by have e : k = w.heap.size := hk; have := HX2.out.1.o; omega)⟩)
      clear hb hc hs
      try simp only [Act.put, List.setIfInBounds_toArray, List.set_cons_zero, List.set_cons_succ]
      refine QK.normal ⟨fun h => absurd h (by decide), ?_⟩
      refine wpAnyM_done (by kernel_rfl) ?_ _
      refine NoPanic.normal ?_
      have HFAR := Lib.hid (And.intro (far_own HX3.out.2.2) (far_len (n' := 2) (c' := cx) (far_own HX2.out.2.1)))
      have HFL := Lib.hid (show C.length = 67 ∧ ((P ++ [q.y]).take 2).length = 2 ∧ (∀ x ∈ C, IsD x) ∧ (∀ x ∈ ((P ++ [q.y]).take 2), IsD x) from ⟨HC.out.2.2.2, (by rw [List.length_take, List.length_append, HP.out.2.2.2]; rfl), HC.out.2.2.1, (fun x hx => by rcases List.mem_append.1 (List.mem_of_mem_take hx) with h | h; exact HP.out.2.2.1 x h; rw [List.mem_singleton.1 h]; exact HYD.out)⟩)
      clear hcx hcz hb2
      go_wp2_with fail
      refine wp_region_takes (fun w' => w'.rangeAt w.heap.size 0 (sgC n (.slice o1 67 c1) (.slice ax 2 cx)) ∧ w'.rangeAt a1.heap.size 0 (ofK .u8 m)) [0, 1] 2 (by kernel_rfl) rfl (by kernel_rfl) (by kernel_rfl) (⟨rangeW_blk HX3.out.1.s, rangeW_blk HX3.out.1.m⟩) ?_
      iterate 2 (refine' HeldL.run ?_ ?_ ?_ ?_; rotate_left 2; (simp only [List.getElem?_toArray, List.getElem?_cons_zero, List.getElem?_cons_succ]; rfl); rfl; (rintro w' ⟨k0, k1⟩; first | exact exec_load_mid rfl rfl k0 Try.underlying90 rfl (sgC_info _ _ _) | exact exec_load_mid rfl rfl k1 Try.underlying23 rfl HMI.out); simp only [Act.put, List.setIfInBounds_toArray, List.set_cons_zero, List.set_cons_succ])
      have sm := (Sm.refl x3).drew
      have HZ := Lib.hid (show TuI w w.heap.size a1.heap.size a2.heap.size a3.heap.size a4.heap.size a5.heap.size (n) (.slice o1 67 c1) (.slice ax 2 cx) (m) q x3.drew ∧ SlD x3.drew (.slice o1 67 c1) C ∧ SlD x3.drew (.slice ax 2 cx) ((P ++ [q.y]).take 2) from ⟨HX3.out.1.low (sm.below _), (SlD.of_owns HX3.out.2.2 HC.out.2.2.2.symm HC.out.2.2.1).below (sm.below _), HX3.out.2.1.below (sm.below _)⟩)
      clear sm
      generalize x3.drew = z0 at HZ ⊢
      refine' wpAnyH_one 2 (by kernel_rfl) ?_ ?_; rotate_left; (simp only [List.getElem?_toArray, List.getElem?_cons_zero, List.getElem?_cons_succ]; rfl)
      refine wpList_store_blk z0 rfl 90 (.tmp 6) (.tmp 101) rfl a3.heap.size 90 (sgC 0 (.slice none 0 0) (.slice none 0 0)) (sgC n (.slice o1 67 c1) (.slice ax 2 cx)) HZ.out.1.f1 rfl rfl rfl (sgC_info _ _ _) (sgC_one _ _ _ _ _ _ _) ?_
      intro z1 hb hc hs
      have HY := Lib.hid (show Blk z1 a3.heap.size 90 (sgC n (.slice o1 67 c1) (.slice ax 2 cx)) ∧ Blk z1 a4.heap.size 23 (ofK .u8 zer32) ∧ Blk z1 w.heap.size 90 (sgC n (.slice o1 67 c1) (.slice ax 2 cx)) ∧ Blk z1 a1.heap.size 23 (ofK .u8 m) ∧ Ch (fun k => a3.heap.size ≤ k ∧ k < a5.heap.size) z0 z1 from ⟨hb, HZ.out.1.f2.keep hc (fun e => by have e : a4.heap.size = a3.heap.size := e; have := HZ.out.1.o; omega), HZ.out.1.s.keep hc (fun e => by have e : w.heap.size = a3.heap.size := e; have := HZ.out.1.o; omega), HZ.out.1.m.keep hc (fun e => by have e : a1.heap.size = a3.heap.size := e; have := HZ.out.1.o; omega), hc.mono (fun k hk => by have e : k = a3.heap.size := hk; have := HZ.out.1.o; omega)⟩)
      clear hb hc hs
      try simp only [Act.put, List.setIfInBounds_toArray, List.set_cons_zero, List.set_cons_succ]
      refine QK.normal ⟨⟨rangeW_blk HY.out.2.2.1, rangeW_blk HY.out.2.2.2.1⟩, ?_⟩
      refine' wpAnyH_one 3 (by kernel_rfl) ?_ ?_; rotate_left; (simp only [List.getElem?_toArray, List.getElem?_cons_zero, List.getElem?_cons_succ]; rfl)
      refine wpList_store_blk z1 rfl 23 (.tmp 7) (.tmp 102) rfl a4.heap.size 23 (ofK .u8 zer32) (ofK .u8 m) HY.out.2.1 rfl rfl HML.out HMI.out (one_ofK _ _) ?_
      intro z2 hb hc hs
      have HX := Lib.hid (show Blk z2 a3.heap.size 90 (sgC n (.slice o1 67 c1) (.slice ax 2 cx)) ∧ Blk z2 a4.heap.size 23 (ofK .u8 m) ∧ Blk z2 w.heap.size 90 (sgC n (.slice o1 67 c1) (.slice ax 2 cx)) ∧ Blk z2 a1.heap.size 23 (ofK .u8 m) ∧ Ch (fun k => a3.heap.size ≤ k ∧ k < a5.heap.size) z0 z2 from ⟨HY.out.1.keep hc (fun e => by have e : a3.heap.size = a4.heap.size := e; have := HZ.out.1.o; omega), hb, HY.out.2.2.1.keep hc (fun e => by have e : w.heap.size = a4.heap.size := e; have := HZ.out.1.o; omega), HY.out.2.2.2.1.keep hc (fun e => by have e : a1.heap.size = a4.heap.size := e; have := HZ.out.1.o; omega), HY.out.2.2.2.2.trans (hc.mono (fun k hk => by have e : k = a4.heap.size := hk; have := HZ.out.1.o; omega))⟩)
      clear hb hc hs
      try simp only [Act.put, List.setIfInBounds_toArray, List.set_cons_zero, List.set_cons_succ]
      refine QK.normal ⟨⟨rangeW_blk HX.out.2.2.1, rangeW_blk HX.out.2.2.2.1⟩, ?_⟩
      refine wpAnyH_done (by kernel_rfl) ?_ _
      refine NoPanic.normal ?_
      go_wp2_with fail
      have k1 := SlD.upon HZ.out.2.1 HFAR.out.1 HX.out.2.2.2.2 (fun k hk => hk.2)
      have k2 := SlD.upon HZ.out.2.2 HFAR.out.2 HX.out.2.2.2.2 (fun k hk => hk.2)
      have k3 := HFL.out
      refine bodyPost_ret (results_cc Try.results77 _ _ a3.heap.size a4.heap.size _ _ rfl rfl (run_loadVar_mid (P := Try.prog) _ a3.heap.size 0 90 (sgC n (.slice o1 67 c1) (.slice ax 2 cx)) _ (rangeW_blk HX.out.1) Try.underlying90 rfl (sgC_info _ _ _)) (run_loadVar_mid (P := Try.prog) _ a4.heap.size 0 23 (ofK .u8 m) _ (rangeW_blk HX.out.2.1) Try.underlying23 rfl HMI.out)) rfl ?_
      exact ⟨_, _, _, _, _, _, _, _, by rw [k3.1, k3.2.1], by rw [k3.1]; exact k1, by rw [k3.2.1]; exact k2, k3.2.2.1, k3.2.2.2, HMD.out, below_ch HZ.out.1.bel HX.out.2.2.2.2 (Nat.le_refl _) (fun k hk => by have := HZ.out.1.o; omega)⟩
  · skip
    go_wp2_with (first
    | (with_reducible refine wpList_load_any rfl 23 (.tmp 22) rfl a2.heap.size 2 rfl (ofK .u8 q.y) _ (turn8_parts J1.t).2.2 Try.underlying23 rfl HYI.out ?_)
    | ((with_reducible refine wpList_store_blk wc rfl 23 (.tmp 4) (.tmp 23) rfl a1.heap.size 23 (ofK .u8 m) (ofK .u8 q.y) J1.m rfl rfl ?_ HYI.out (one_ofK _ _) ?_); (focus (rw [length_ofK, length_ofK, HYD.out.1, HMD.out.1])); intro s96 hb hc hs; have J97 : TuI w w.heap.size a1.heap.size a2.heap.size a3.heap.size a4.heap.size a5.heap.size (n) (.slice o1 67 c1) (.slice o2 3 c2) (q.y) q s96 := J1.setM hb hc; have HR1 := Lib.hid (own_upon RW1.out hc (fun k hk => by have hk : k = a1.heap.size := hk; have := J1.o; omega)); have HR2 := Lib.hid (own_upon RW2.out hc (fun k hk => by have hk : k = a1.heap.size := hk; have := J1.o; omega)); clear hb hc hs))
    have HS1 := Lib.hid (SlD.of_owns HR1.out HC.out.2.2.2.symm HC.out.2.2.1)
    have HS2 := Lib.hid (SlD.of_owns HR2.out HP.out.2.2.2.symm HP.out.2.2.1)
    have HFAR := Lib.hid (And.intro (far_own HR1.out) (far_own HR2.out))
    have HFL := Lib.hid (And.intro HC.out.2.2.2 (And.intro HP.out.2.2.2 (And.intro HC.out.2.2.1 HP.out.2.2.1)))
    go_wp2_with fail
    refine wp_region_takes (fun w' => w'.rangeAt w.heap.size 0 (sgC n (.slice o1 67 c1) (.slice o2 3 c2)) ∧ w'.rangeAt a1.heap.size 0 (ofK .u8 q.y)) [0, 1] 2 (by kernel_rfl) rfl (by kernel_rfl) (by kernel_rfl) (⟨rangeW_blk J97.s, rangeW_blk J97.m⟩) ?_
    iterate 2 (refine' HeldL.run ?_ ?_ ?_ ?_; rotate_left 2; (simp only [List.getElem?_toArray, List.getElem?_cons_zero, List.getElem?_cons_succ]; rfl); rfl; (rintro w' ⟨k0, k1⟩; first | exact exec_load_mid rfl rfl k0 Try.underlying90 rfl (sgC_info _ _ _) | exact exec_load_mid rfl rfl k1 Try.underlying23 rfl HYI.out); simp only [Act.put, List.setIfInBounds_toArray, List.set_cons_zero, List.set_cons_succ])
    have sm := (Sm.refl s96).drew
    have HZ := Lib.hid (show TuI w w.heap.size a1.heap.size a2.heap.size a3.heap.size a4.heap.size a5.heap.size (n) (.slice o1 67 c1) (.slice o2 3 c2) (q.y) q s96.drew ∧ SlD s96.drew (.slice o1 67 c1) C ∧ SlD s96.drew (.slice o2 3 c2) P from ⟨J97.low (sm.below _), HS1.out.below (sm.below _), HS2.out.below (sm.below _)⟩)
    clear sm
    generalize s96.drew = z0 at HZ ⊢
    refine' wpAnyH_one 2 (by kernel_rfl) ?_ ?_; rotate_left; (simp only [List.getElem?_toArray, List.getElem?_cons_zero, List.getElem?_cons_succ]; rfl)
    refine wpList_store_blk z0 rfl 90 (.tmp 6) (.tmp 101) rfl a3.heap.size 90 (sgC 0 (.slice none 0 0) (.slice none 0 0)) (sgC n (.slice o1 67 c1) (.slice o2 3 c2)) HZ.out.1.f1 rfl rfl rfl (sgC_info _ _ _) (sgC_one _ _ _ _ _ _ _) ?_
    intro z1 hb hc hs
    have HY := Lib.hid (show Blk z1 a3.heap.size 90 (sgC n (.slice o1 67 c1) (.slice o2 3 c2)) ∧ Blk z1 a4.heap.size 23 (ofK .u8 zer32) ∧ Blk z1 w.heap.size 90 (sgC n (.slice o1 67 c1) (.slice o2 3 c2)) ∧ Blk z1 a1.heap.size 23 (ofK .u8 q.y) ∧ Ch (fun k => a3.heap.size ≤ k ∧ k < a5.heap.size) z0 z1 from ⟨hb, HZ.out.1.f2.keep hc (fun e => by have e : a4.heap.size = a3.heap.size := e; have := HZ.out.1.o; omega), HZ.out.1.s.keep hc (fun e => by have e : w.heap.size = a3.heap.size := e; have := HZ.out.1.o; omega), HZ.out.1.m.keep hc (fun e => by have e : a1.heap.size = a3.heap.size := e; have := HZ.out.1.o; omega), hc.mono (fun k hk => by have e : k = a3.heap.size := hk; have := HZ.out.1.o; omega)⟩)
    clear hb hc hs
    try simp only [Act.put, List.setIfInBounds_toArray, List.set_cons_zero, List.set_cons_succ]
    refine QK.normal ⟨⟨rangeW_blk HY.out.2.2.1, rangeW_blk HY.out.2.2.2.1⟩, ?_⟩
    refine' wpAnyH_one 3 (by kernel_rfl) ?_ ?_; rotate_left; (simp only [List.getElem?_toArray, List.getElem?_cons_zero, List.getElem?_cons_succ]; rfl)
    refine wpList_store_blk z1 rfl 23 (.tmp 7) (.tmp 102) rfl a4.heap.size 23 (ofK .u8 zer32) (ofK .u8 q.y) HY.out.2.1 rfl rfl HYL.out HYI.out (one_ofK _ _) ?_
    intro z2 hb hc hs
    have HX := Lib.hid (show Blk z2 a3.heap.size 90 (sgC n (.slice o1 67 c1) (.slice o2 3 c2)) ∧ Blk z2 a4.heap.size 23 (ofK .u8 q.y) ∧ Blk z2 w.heap.size 90 (sgC n (.slice o1 67 c1) (.slice o2 3 c2)) ∧ Blk z2 a1.heap.size 23 (ofK .u8 q.y) ∧ Ch (fun k => a3.heap.size ≤ k ∧ k < a5.heap.size) z0 z2 from ⟨HY.out.1.keep hc (fun e => by have e : a3.heap.size = a4.heap.size := e; have := HZ.out.1.o; omega), hb, HY.out.2.2.1.keep hc (fun e => by have e : w.heap.size = a4.heap.size := e; have := HZ.out.1.o; omega), HY.out.2.2.2.1.keep hc (fun e => by have e : a1.heap.size = a4.heap.size := e; have := HZ.out.1.o; omega), HY.out.2.2.2.2.trans (hc.mono (fun k hk => by have e : k = a4.heap.size := hk; have := HZ.out.1.o; omega))⟩)
    clear hb hc hs
    try simp only [Act.put, List.setIfInBounds_toArray, List.set_cons_zero, List.set_cons_succ]
    refine QK.normal ⟨⟨rangeW_blk HX.out.2.2.1, rangeW_blk HX.out.2.2.2.1⟩, ?_⟩
    refine wpAnyH_done (by kernel_rfl) ?_ _
    refine NoPanic.normal ?_
    go_wp2_with fail
    have k1 := SlD.upon HZ.out.2.1 HFAR.out.1 HX.out.2.2.2.2 (fun k hk => hk.2)
    have k2 := SlD.upon HZ.out.2.2 HFAR.out.2 HX.out.2.2.2.2 (fun k hk => hk.2)
    have k3 := HFL.out
    refine bodyPost_ret (results_cc Try.results77 _ _ a3.heap.size a4.heap.size _ _ rfl rfl (run_loadVar_mid (P := Try.prog) _ a3.heap.size 0 90 (sgC n (.slice o1 67 c1) (.slice o2 3 c2)) _ (rangeW_blk HX.out.1) Try.underlying90 rfl (sgC_info _ _ _)) (run_loadVar_mid (P := Try.prog) _ a4.heap.size 0 23 (ofK .u8 q.y) _ (rangeW_blk HX.out.2.1) Try.underlying23 rfl HYI.out)) rfl ?_
    exact ⟨_, _, _, _, _, _, _, _, by rw [k3.1, k3.2.1], by rw [k3.1]; exact k1, by rw [k3.2.1]; exact k2, k3.2.2.1, k3.2.2.2, HYD.out, below_ch HZ.out.1.bel HX.out.2.2.2.2 (Nat.le_refl _) (fun k hk => by have := HZ.out.1.o; omega)⟩


end Go.Proofs.Ytkbhehnpgnilmaa
