/-
  Layer 5, plain: what a reader of terms answers for whatever bytes. No walk. Conditions: none.
-/
import Derived.Test.YtfenikoajadiaaaTmU
namespace Go.Proofs.Ytfenikoajadiaaa
open Go Go.RowKit
set_option linter.unusedSimpArgs false
set_option linter.unusedVariables false

def textD : Bool → List Int → Except Int (ByteArray × List Int)
  | false, bs => .ok (⟨#[]⟩, bs)
  | true, [] => .error 7
  | true, n :: r => if 64 < n then .error 150 else if (r.length : Int) < n then .error 7 else .ok (toB (r.take n.toNat), r.drop n.toNat)
def userD : Bool → List Int → Except Int (Int × List Int)
  | false, bs => .ok (0, bs)
  | true, [] => .error 7
  | true, u :: r => if knownB u = true then .ok (u, r) else .error 150
def numD : Bool → List Int → Except Int (Int × List Int)
  | false, bs => .ok (0, bs)
  | true, [] => .error 7
  | true, [_] => .error 7
  | true, x :: y :: r => .ok (256 * x + y, r)
def kidsD (g : List Int → Int → Except Int (Tm × List Int × Int)) : Nat → List Int → Int → Except Int (List Tm × List Int × Int)
  | 0, bs, l => .ok ([], bs, l)
  | m + 1, bs, l => match g bs l with
    | .error e => .error e
    | .ok (t, r, l') => match kidsD g m r l' with
      | .error e => .error e
      | .ok (ts, r2, l2) => .ok (t :: ts, r2, l2)
def headD (k : Int) (r : List Int) : Except Int ((ByteArray × Int × Int) × List Int) :=
  match textD (hasB k 1) r with
  | .error e => .error e
  | .ok (s, r1) => match userD (hasB k 2) r1 with
    | .error e => .error e
    | .ok (u, r2) => match numD (hasB k 4) r2 with
      | .error e => .error e
      | .ok (n, r3) => .ok ((s, u, n), r3)
/-- the term that bytes begin with, what is left of them, and how many more terms there may be; or why not -/
def decF : Nat → List Int → Int → Except Int (Tm × List Int × Int)
  | _, [], _ => .error 7
  | 0, _ :: _, _ => .error 150
  | f + 1, k :: r, l => if fieldsF k = 0 ∨ l - 1 < 0 then .error 150 else
      match headD k r with
      | .error e => .error e
      | .ok ((s, u, n), r3) => match kidsD (decF f) (kidsN k) r3 (l - 1) with
        | .error e => .error e
        | .ok (ks, r4, l') => .ok (.mk k u n s ks, r4, l')

theorem fieldsF_pos {k : Int} (h : fieldsF k ≠ 0) : 1 ≤ k ∧ k ≤ 8 := by
  rcases kind_cases k with hk | hk | hk | hk | hk | hk | hk | hk | hk <;> first | omega | exact (h (fieldsF_none hk)).elim
theorem knownB_iff {u : Int} : knownB u = true ↔ 1 ≤ u ∧ u ≤ 6 := by unfold knownB; simp
theorem AllB.tail {x : Int} {r : List Int} (h : AllB (x :: r)) : AllB r := fun c hc => h c (List.mem_cons_of_mem _ hc)
theorem AllB.drop {r : List Int} (h : AllB r) (n : Nat) : AllB (r.drop n) := fun c hc => h c (List.mem_of_mem_drop hc)
theorem AllB.take {r : List Int} (h : AllB r) (n : Nat) : AllB (r.take n) := fun c hc => h c (List.mem_of_mem_take hc)
theorem AllB.right {a b : List Int} (h : AllB (a ++ b)) : AllB b := fun c hc => h c (List.mem_append_right _ hc)

-- sound
theorem textD_ok {b : Bool} {bs r : List Int} {s : ByteArray} (hb : AllB bs) (h : textD b bs = .ok (s, r)) : bs = (if b = true then (s.size : Int) :: ints s else []) ++ r ∧ s.size ≤ 64 ∧ (b = true ∨ s.size = 0) := by
  cases b
  · simp only [textD, Except.ok.injEq, Prod.mk.injEq] at h
    obtain ⟨rfl, rfl⟩ := h
    exact ⟨rfl, by decide, .inr rfl⟩
  · cases bs with
    | nil => simp [textD] at h
    | cons n q =>
      rw [textD] at h
      split at h
      · cases h
      · split at h
        · cases h
        · simp only [Except.ok.injEq, Prod.mk.injEq] at h
          obtain ⟨rfl, rfl⟩ := h
          have hn := hb n List.mem_cons_self
          have e1 : (toB (q.take n.toNat)).size = n.toNat := by rw [toB_size, List.length_take]; omega
          refine ⟨?_, by omega, .inl rfl⟩
          rw [if_pos rfl, e1, ints_toB (hb.tail.take _), List.cons_append, List.take_append_drop]
          congr 1
          omega
theorem userD_ok {b : Bool} {bs r : List Int} {u : Int} (h : userD b bs = .ok (u, r)) : bs = (if b = true then [u] else []) ++ r ∧ (if b = true then (1 ≤ u ∧ u ≤ 6) else u = 0) := by
  cases b
  · simp only [userD, Except.ok.injEq, Prod.mk.injEq] at h
    obtain ⟨rfl, rfl⟩ := h
    exact ⟨rfl, rfl⟩
  · cases bs with
    | nil => simp [userD] at h
    | cons n q =>
      rw [userD] at h
      split at h
      · rename_i hk
        simp only [Except.ok.injEq, Prod.mk.injEq] at h
        obtain ⟨rfl, rfl⟩ := h
        exact ⟨rfl, knownB_iff.1 hk⟩
      · cases h
theorem beF2_of {x y : Int} (hx : 0 ≤ x ∧ x ≤ 255) (hy : 0 ≤ y ∧ y ≤ 255) : beF (256 * x + y) 2 = [x, y] := by
  have h1 : AllB [x, y] := fun c hc => by simp at hc; rcases hc with rfl | rfl <;> omega
  have e : ∀ a b : Int, beF a 2 = [beAt a 2 0, beAt a 2 1] := fun a _ => rfl
  rw [e _ 0]
  unfold beAt
  simp only [List.cons.injEq, and_true]
  omega
theorem numD_ok {b : Bool} {bs r : List Int} {n : Int} (hb : AllB bs) (h : numD b bs = .ok (n, r)) : bs = (if b = true then beF n 2 else []) ++ r ∧ (if b = true then (0 ≤ n ∧ n ≤ 65535) else n = 0) := by
  cases b
  · simp only [numD, Except.ok.injEq, Prod.mk.injEq] at h
    obtain ⟨rfl, rfl⟩ := h
    exact ⟨rfl, rfl⟩
  · match bs, h with
    | [], h => simp [numD] at h
    | [_], h => simp [numD] at h
    | x :: y :: q, h =>
      rw [numD] at h
      simp only [Except.ok.injEq, Prod.mk.injEq] at h
      obtain ⟨rfl, rfl⟩ := h
      have h1 := hb x List.mem_cons_self
      have h2 := hb y (List.mem_cons_of_mem _ List.mem_cons_self)
      refine ⟨?_, by simp; omega⟩
      rw [if_pos rfl, beF2_of h1 h2]
      rfl
theorem headD_ok {k u n : Int} {s : ByteArray} {bs r : List Int} (hb : AllB bs) (h : headD k bs = .ok ((s, u, n), r)) :
    k :: bs = headX k u n s (hasB k 1) (hasB k 2) (hasB k 4) ++ r ∧ s.size ≤ 64 ∧ (hasB k 1 = true ∨ s.size = 0) ∧ (if hasB k 2 = true then (1 ≤ u ∧ u ≤ 6) else u = 0) ∧ (if hasB k 4 = true then (0 ≤ n ∧ n ≤ 65535) else n = 0) := by
  unfold headD at h
  split at h
  · cases h
  · rename_i s1 r1 h1
    split at h
    · cases h
    · rename_i u1 r2 h2
      split at h
      · cases h
      · rename_i n1 r3 h3
        simp only [Except.ok.injEq, Prod.mk.injEq] at h
        obtain ⟨⟨rfl, rfl, rfl⟩, rfl⟩ := h
        obtain ⟨a1, a2, a3⟩ := textD_ok hb h1
        obtain ⟨b1, b2⟩ := userD_ok h2
        have hb1 : AllB r1 := by rw [a1] at hb; exact hb.right
        have hb2 : AllB r2 := by rw [b1] at hb1; exact hb1.right
        obtain ⟨c1, c2⟩ := numD_ok hb2 h3
        refine ⟨?_, a2, a3, b2, c2⟩
        unfold headX
        rw [List.append_assoc, List.append_assoc, List.append_assoc, ← c1, ← b1, ← a1]
        rfl
theorem kidsD_ok {g : List Int → Int → Except Int (Tm × List Int × Int)} {d : Int} (hg : ∀ bs l t r l', AllB bs → g bs l = .ok (t, r, l') → bs = bytesT t ++ r ∧ walkM t d l = (true, l')) :
    ∀ (m : Nat) (bs : List Int) (l : Int) (ts : List Tm) (r : List Int) (l' : Int), AllB bs → kidsD g m bs l = .ok (ts, r, l') → ts.length = m ∧ bs = bytesTL ts ++ r ∧ walkL ts d l = (true, l')
  | 0, bs, l, ts, r, l', hb, h => by
    simp only [kidsD, Except.ok.injEq, Prod.mk.injEq] at h
    obtain ⟨rfl, rfl, rfl⟩ := h
    exact ⟨rfl, by rw [bytesTL]; rfl, by rw [walkL]⟩
  | m + 1, bs, l, ts, r, l', hb, h => by
    rw [kidsD] at h
    split at h
    · cases h
    · rename_i t1 r1 l1 h1
      split at h
      · cases h
      · rename_i ts2 r2 l2 h2
        simp only [Except.ok.injEq, Prod.mk.injEq] at h
        obtain ⟨rfl, rfl, rfl⟩ := h
        obtain ⟨a1, a2⟩ := hg _ _ _ _ _ hb h1
        have hb1 : AllB r1 := by rw [a1] at hb; exact hb.right
        obtain ⟨b1, b2, b3⟩ := kidsD_ok hg m _ _ _ _ _ hb1 h2
        refine ⟨by simp [b1], by rw [bytesTL, List.append_assoc, ← b2, ← a1], ?_⟩
        rw [walkL_cons, a2]
        exact b3
theorem decF_ok : ∀ (f : Nat) (bs : List Int) (l : Int) (t : Tm) (r : List Int) (l' : Int), AllB bs → decF f bs l = .ok (t, r, l') → bs = bytesT t ++ r ∧ walkM t (61 - f) l = (true, l')
  | 0, [], _, _, _, _, _, h => by simp [decF] at h
  | 0, _ :: _, _, _, _, _, _, h => by simp [decF] at h
  | f + 1, [], _, _, _, _, _, h => by simp [decF] at h
  | f + 1, k :: bs, l, t, r, l', hb, h => by
    rw [decF] at h
    split at h
    · cases h
    · rename_i hk
      split at h
      · cases h
      · rename_i s u n r3 h3
        split at h
        · cases h
        · rename_i ks r4 l4 h4
          simp only [Except.ok.injEq, Prod.mk.injEq] at h
          obtain ⟨rfl, rfl, rfl⟩ := h
          obtain ⟨a1, a2, a3, a4, a5⟩ := headD_ok hb.tail h3
          have hb3 : AllB r3 := by rw [a1] at hb; exact hb.right
          obtain ⟨b1, b2, b3⟩ := kidsD_ok (d := 61 - f) (fun bs l t r l' hb h => decF_ok f bs l t r l' hb h) _ _ _ _ _ _ hb3 h4
          refine ⟨by rw [bytesT, List.append_assoc, ← b2]; exact a1, ?_⟩
          have hp : plainB k u n s ks.length = true := plainB_iff.2 ⟨fieldsF_pos (fun e => hk (.inl e)), b1, a2, a3, a4, a5⟩
          rw [walkM, if_neg (by rw [hp]; simp; omega)]
          rw [show (61 : Int) - ((f + 1 : Nat) : Int) + 1 = 61 - f by omega]
          exact b3

-- complete
theorem textD_app {b : Bool} {s : ByteArray} {r : List Int} (h : s.size ≤ 64) (hb : b = true ∨ s.size = 0) : textD b ((if b = true then (s.size : Int) :: ints s else []) ++ r) = .ok (s, r) := by
  cases b
  · have e : s = ⟨#[]⟩ := size_nil (by simpa using hb)
    subst e; rfl
  · rw [if_pos rfl, List.cons_append, textD, if_neg (by omega), if_neg (by simp [ints_length]; omega)]
    rw [Int.toNat_natCast, List.take_left' (ints_length s), List.drop_left' (ints_length s), toB_ints]
theorem userD_app {b : Bool} {u : Int} {r : List Int} (h : if b = true then (1 ≤ u ∧ u ≤ 6) else u = 0) : userD b ((if b = true then [u] else []) ++ r) = .ok (u, r) := by
  cases b
  · simp at h; subst h; rfl
  · simp only [if_true] at h
    rw [if_pos rfl, List.cons_append, userD, if_pos (knownB_iff.2 h)]; rfl
theorem numD_app {b : Bool} {n : Int} {r : List Int} (h : if b = true then (0 ≤ n ∧ n ≤ 65535) else n = 0) : numD b ((if b = true then beF n 2 else []) ++ r) = .ok (n, r) := by
  cases b
  · simp at h; subst h; rfl
  · simp only [if_true] at h
    have e : beF n 2 = [n / 256, n % 256] := by
      have := beF2_of (x := n / 256) (y := n % 256) (by omega) (by omega)
      rw [← this]; congr 1; omega
    rw [if_pos rfl, e, List.cons_append, List.cons_append, numD]
    simp only [List.nil_append, Except.ok.injEq, Prod.mk.injEq, and_true]
    omega
theorem headD_app {k u n : Int} {s : ByteArray} {m : Nat} {X Y : List Int} (hp : PlainP k u n s m) (h : k :: Y = headX k u n s (hasB k 1) (hasB k 2) (hasB k 4) ++ X) : headD k Y = .ok ((s, u, n), X) := by
  unfold headX at h
  simp only [List.append_assoc, List.cons_append, List.nil_append, List.cons.injEq, true_and] at h
  subst h
  unfold headD
  rw [textD_app hp.ps hp.pt]
  simp only []
  rw [userD_app hp.pu]
  simp only []
  rw [numD_app hp.pn]
theorem kidsD_app {g : List Int → Int → Except Int (Tm × List Int × Int)} {d : Int} : ∀ (ts : List Tm) (l l' : Int) (r : List Int), (∀ t ∈ ts, ∀ r l l', walkM t d l = (true, l') → g (bytesT t ++ r) l = .ok (t, r, l')) → walkL ts d l = (true, l') → kidsD g ts.length (bytesTL ts ++ r) l = .ok (ts, r, l')
  | [], l, l', r, _, h => by rw [walkL] at h; simp at h; subst h; rw [bytesTL]; rfl
  | t :: ts, l, l', r, hg, h => by
    rw [walkL_cons] at h
    split at h
    · rename_i h1
      rw [bytesTL, List.append_assoc, List.length_cons, kidsD, hg t List.mem_cons_self _ _ _ (Prod.ext h1 rfl)]
      simp only []
      rw [kidsD_app ts _ _ _ (fun t ht => hg t (List.mem_cons_of_mem _ ht)) h]
    · cases h
theorem decF_app : ∀ (t : Tm) (f : Nat) (l l' : Int) (r : List Int), walkM t (61 - f) l = (true, l') → decF f (bytesT t ++ r) l = .ok (t, r, l') := by
  refine Tm.ind fun k u n s ks ih f l l' r h => ?_
  rw [walkM] at h
  split at h
  · cases h
  · rename_i hb
    have hp := plainB_iff.1 (show plainB k u n s ks.length = true from by cases hp : plainB k u n s ks.length with | true => rfl | false => exact (hb (.inr (.inr hp))).elim)
    obtain ⟨f, rfl⟩ : ∃ j, f = j + 1 := ⟨f - 1, by omega⟩
    obtain ⟨Y, hY⟩ : ∃ Y, headX k u n s (hasB k 1) (hasB k 2) (hasB k 4) ++ (bytesTL ks ++ r) = k :: Y := ⟨_, by unfold headX; simp only [List.append_assoc, List.cons_append, List.nil_append]; rfl⟩
    rw [bytesT, List.append_assoc, hY, decF]
    have hf : fieldsF k ≠ 0 := by
      have h8 := hp.pk
      obtain rfl | rfl | rfl | rfl | rfl | rfl | rfl | rfl : k = 1 ∨ k = 2 ∨ k = 3 ∨ k = 4 ∨ k = 5 ∨ k = 6 ∨ k = 7 ∨ k = 8 := by omega
      all_goals decide
    rw [if_neg (by intro h; rcases h with h | h; exact hf h; exact hb (.inl h)), headD_app hp hY.symm]
    simp only []
    rw [← hp.pl, kidsD_app (d := 61 - f) ks (l - 1) l' r (fun t ht r l l' h => ih t ht f l l' r h) (by rw [show (61 : Int) - (f : Int) = 61 - ((f + 1 : Nat) : Int) + 1 by omega]; exact h)]

-- what stands behind does not matter
theorem textD_ext {b : Bool} {bs : List Int} (x : List Int) (hb : AllB bs) : (∀ s r, textD b bs = .ok (s, r) → textD b (bs ++ x) = .ok (s, r ++ x)) ∧ (textD b bs = .error 150 → textD b (bs ++ x) = .error 150) := by
  cases b
  · constructor
    · intro s r h
      simp only [textD, Except.ok.injEq, Prod.mk.injEq] at h ⊢
      obtain ⟨rfl, rfl⟩ := h
      exact ⟨rfl, rfl⟩
    · intro h; simp [textD] at h
  · cases bs with
    | nil => exact ⟨fun s r h => by simp [textD] at h, fun h => by simp [textD] at h⟩
    | cons n q =>
      have hn := hb n List.mem_cons_self
      rw [List.cons_append, textD, textD]
      by_cases h1 : 64 < n
      · rw [if_pos h1, if_pos h1]; exact ⟨fun _ _ h => (by cases h), fun _ => rfl⟩
      · rw [if_neg h1, if_neg h1]
        by_cases h2 : (q.length : Int) < n
        · rw [if_pos h2]; exact ⟨fun _ _ h => (by cases h), fun h => by simp at h⟩
        · rw [if_neg h2, if_neg (by simp; omega)]
          refine ⟨fun s r h => ?_, fun h => by cases h⟩
          simp only [Except.ok.injEq, Prod.mk.injEq] at h ⊢
          obtain ⟨rfl, rfl⟩ := h
          rw [List.take_append_of_le_length (by omega), List.drop_append_of_le_length (by omega)]
          exact ⟨rfl, rfl⟩
theorem userD_ext {b : Bool} {bs : List Int} (x : List Int) : (∀ s r, userD b bs = .ok (s, r) → userD b (bs ++ x) = .ok (s, r ++ x)) ∧ (userD b bs = .error 150 → userD b (bs ++ x) = .error 150) := by
  cases b
  · constructor
    · intro s r h
      simp only [userD, Except.ok.injEq, Prod.mk.injEq] at h ⊢
      obtain ⟨rfl, rfl⟩ := h
      exact ⟨rfl, rfl⟩
    · intro h; simp [userD] at h
  · cases bs with
    | nil => exact ⟨fun s r h => by simp [userD] at h, fun h => by simp [userD] at h⟩
    | cons n q =>
      rw [List.cons_append, userD, userD]
      by_cases h1 : knownB n = true
      · rw [if_pos h1, if_pos h1]
        refine ⟨fun s r h => ?_, fun h => by cases h⟩
        simp only [Except.ok.injEq, Prod.mk.injEq] at h ⊢
        obtain ⟨rfl, rfl⟩ := h
        exact ⟨rfl, rfl⟩
      · rw [if_neg h1, if_neg h1]; exact ⟨fun _ _ h => (by cases h), fun _ => rfl⟩
theorem numD_ext {b : Bool} {bs : List Int} (x : List Int) : (∀ s r, numD b bs = .ok (s, r) → numD b (bs ++ x) = .ok (s, r ++ x)) ∧ (numD b bs = .error 150 → numD b (bs ++ x) = .error 150) := by
  cases b
  · constructor
    · intro s r h
      simp only [numD, Except.ok.injEq, Prod.mk.injEq] at h ⊢
      obtain ⟨rfl, rfl⟩ := h
      exact ⟨rfl, rfl⟩
    · intro h; simp [numD] at h
  · match bs with
    | [] => exact ⟨fun s r h => by simp [numD] at h, fun h => by simp [numD] at h⟩
    | [_] => exact ⟨fun s r h => by simp [numD] at h, fun h => by simp [numD] at h⟩
    | a :: c :: q =>
      rw [List.cons_append, List.cons_append, numD, numD]
      refine ⟨fun s r h => ?_, fun h => by cases h⟩
      simp only [Except.ok.injEq, Prod.mk.injEq] at h ⊢
      obtain ⟨rfl, rfl⟩ := h
      exact ⟨rfl, rfl⟩
theorem headD_ext {k : Int} {bs : List Int} (x : List Int) (hb : AllB bs) : (∀ a r, headD k bs = .ok (a, r) → headD k (bs ++ x) = .ok (a, r ++ x)) ∧ (headD k bs = .error 150 → headD k (bs ++ x) = .error 150) := by
  have ht := textD_ext (b := hasB k 1) x hb
  unfold headD
  cases h1 : textD (hasB k 1) bs with
  | error e =>
    simp only []
    refine ⟨fun a r h => (by cases h), fun h => ?_⟩
    cases h
    rw [ht.2 h1]
  | ok p =>
    obtain ⟨s, r1⟩ := p
    rw [ht.1 _ _ h1]
    simp only []
    have hu := userD_ext (b := hasB k 2) (bs := r1) x
    cases h2 : userD (hasB k 2) r1 with
    | error e =>
      simp only []
      refine ⟨fun a r h => (by cases h), fun h => ?_⟩
      cases h
      rw [hu.2 h2]
    | ok p =>
      obtain ⟨u, r2⟩ := p
      rw [hu.1 _ _ h2]
      simp only []
      have hn := numD_ext (b := hasB k 4) (bs := r2) x
      cases h3 : numD (hasB k 4) r2 with
      | error e =>
        simp only []
        refine ⟨fun a r h => (by cases h), fun h => ?_⟩
        cases h
        rw [hn.2 h3]
      | ok p =>
        obtain ⟨n, r3⟩ := p
        rw [hn.1 _ _ h3]
        simp only []
        refine ⟨fun a r h => ?_, fun h => by cases h⟩
        simp only [Except.ok.injEq, Prod.mk.injEq] at h ⊢
        obtain ⟨rfl, rfl⟩ := h
        exact ⟨rfl, rfl⟩
/-- bytes that are read alike, whatever stands behind -/
def ExtG (x : List Int) (g : List Int → Int → Except Int (Tm × List Int × Int)) : Prop :=
  ∀ bs l, AllB bs → (∀ t r l', g bs l = .ok (t, r, l') → g (bs ++ x) l = .ok (t, r ++ x, l') ∧ AllB r) ∧ (g bs l = .error 150 → g (bs ++ x) l = .error 150)
theorem kidsD_ext {x : List Int} {g : List Int → Int → Except Int (Tm × List Int × Int)} (hg : ExtG x g) : ∀ (m : Nat) (bs : List Int) (l : Int), AllB bs →
    (∀ ts r l', kidsD g m bs l = .ok (ts, r, l') → kidsD g m (bs ++ x) l = .ok (ts, r ++ x, l') ∧ AllB r) ∧ (kidsD g m bs l = .error 150 → kidsD g m (bs ++ x) l = .error 150)
  | 0, bs, l, hb => by
    constructor
    · intro ts r l' h
      simp only [kidsD, Except.ok.injEq, Prod.mk.injEq] at h ⊢
      obtain ⟨rfl, rfl, rfl⟩ := h
      exact ⟨⟨rfl, rfl, rfl⟩, hb⟩
    · intro h; simp [kidsD] at h
  | m + 1, bs, l, hb => by
    have h1 := hg bs l hb
    rw [kidsD, kidsD]
    cases hq : g bs l with
    | error e =>
      simp only []
      refine ⟨fun _ _ _ h => (by cases h), fun h => ?_⟩
      cases h
      rw [h1.2 hq]
    | ok p =>
      obtain ⟨t, r1, l1⟩ := p
      obtain ⟨e1, hb1⟩ := h1.1 _ _ _ hq
      rw [e1]
      simp only []
      have h2 := kidsD_ext hg m r1 l1 hb1
      cases hk : kidsD g m r1 l1 with
      | error e =>
        simp only []
        refine ⟨fun _ _ _ h => (by cases h), fun h => ?_⟩
        cases h
        rw [h2.2 hk]
      | ok p =>
        obtain ⟨ts, r2, l2⟩ := p
        obtain ⟨e2, hb2⟩ := h2.1 _ _ _ hk
        rw [e2]
        simp only []
        refine ⟨fun ts' r l' h => ?_, fun h => by cases h⟩
        simp only [Except.ok.injEq, Prod.mk.injEq] at h ⊢
        obtain ⟨rfl, rfl, rfl⟩ := h
        exact ⟨⟨rfl, rfl, rfl⟩, hb2⟩
theorem decF_ext (x : List Int) : ∀ f : Nat, ExtG x (decF f)
  | 0 => fun bs l hb => by
    cases bs with
    | nil => exact ⟨fun _ _ _ h => by simp [decF] at h, fun h => by simp [decF] at h⟩
    | cons k r => exact ⟨fun _ _ _ h => by simp [decF] at h, fun _ => by rw [List.cons_append, decF]⟩
  | f + 1 => fun bs l hb => by
    cases bs with
    | nil => exact ⟨fun _ _ _ h => by simp [decF] at h, fun h => by simp [decF] at h⟩
    | cons k q =>
      rw [List.cons_append, decF, decF]
      by_cases hk : fieldsF k = 0 ∨ l - 1 < 0
      · rw [if_pos hk, if_pos hk]
        exact ⟨fun _ _ _ h => (by cases h), fun _ => rfl⟩
      · rw [if_neg hk, if_neg hk]
        have hh := headD_ext (k := k) x hb.tail
        cases h1 : headD k q with
        | error e =>
          simp only []
          refine ⟨fun _ _ _ h => (by cases h), fun h => ?_⟩
          cases h
          rw [hh.2 h1]
        | ok p =>
          obtain ⟨⟨s, u, n⟩, r3⟩ := p
          rw [hh.1 _ _ h1]
          simp only []
          have hb3 : AllB r3 := by have h := (headD_ok hb.tail h1).1; rw [h] at hb; exact hb.right
          have h2 := kidsD_ext (decF_ext x f) (kidsN k) r3 (l - 1) hb3
          cases hq : kidsD (decF f) (kidsN k) r3 (l - 1) with
          | error e =>
            simp only []
            refine ⟨fun _ _ _ h => (by cases h), fun h => ?_⟩
            cases h
            rw [h2.2 hq]
          | ok p =>
            obtain ⟨ks, r4, l4⟩ := p
            obtain ⟨e2, hb2⟩ := h2.1 _ _ _ hq
            rw [e2]
            simp only []
            refine ⟨fun t r l' h => ?_, fun h => by cases h⟩
            simp only [Except.ok.injEq, Prod.mk.injEq] at h ⊢
            obtain ⟨rfl, rfl, rfl⟩ := h
            exact ⟨⟨rfl, rfl, rfl⟩, hb2⟩

-- the errors
theorem textD_err {b : Bool} {bs : List Int} {e : Int} (h : textD b bs = .error e) : e = 7 ∨ e = 150 := by
  cases b
  · simp [textD] at h
  · cases bs with
    | nil => simp [textD] at h; omega
    | cons n q =>
      rw [textD] at h
      split at h
      · simp at h; omega
      · split at h
        · simp at h; omega
        · cases h
theorem userD_err {b : Bool} {bs : List Int} {e : Int} (h : userD b bs = .error e) : e = 7 ∨ e = 150 := by
  cases b
  · simp [userD] at h
  · cases bs with
    | nil => simp [userD] at h; omega
    | cons n q =>
      rw [userD] at h
      split at h
      · cases h
      · simp at h; omega
theorem numD_err {b : Bool} {bs : List Int} {e : Int} (h : numD b bs = .error e) : e = 7 ∨ e = 150 := by
  cases b
  · simp [numD] at h
  · match bs, h with
    | [], h => simp [numD] at h; omega
    | [_], h => simp [numD] at h; omega
    | x :: y :: q, h => simp [numD] at h
theorem headD_err {k : Int} {bs : List Int} {e : Int} (h : headD k bs = .error e) : e = 7 ∨ e = 150 := by
  unfold headD at h
  split at h
  · rename_i e1 h1; cases h; exact textD_err h1
  · split at h
    · rename_i e1 h1; cases h; exact userD_err h1
    · split at h
      · rename_i e1 h1; cases h; exact numD_err h1
      · cases h
theorem kidsD_err {g : List Int → Int → Except Int (Tm × List Int × Int)} (hg : ∀ bs l e, g bs l = .error e → e = 7 ∨ e = 150) : ∀ (m : Nat) (bs : List Int) (l e : Int), kidsD g m bs l = .error e → e = 7 ∨ e = 150
  | 0, _, _, _, h => by simp [kidsD] at h
  | m + 1, bs, l, e, h => by
    rw [kidsD] at h
    split at h
    · rename_i e1 h1; cases h; exact hg _ _ _ h1
    · split at h
      · rename_i e1 h1; cases h; exact kidsD_err hg m _ _ _ h1
      · cases h
theorem decF_err : ∀ (f : Nat) (bs : List Int) (l e : Int), decF f bs l = .error e → e = 7 ∨ e = 150
  | _, [], _, _, h => by simp [decF] at h; omega
  | 0, _ :: _, _, _, h => by simp [decF] at h; omega
  | f + 1, k :: r, l, e, h => by
    rw [decF] at h
    split at h
    · simp at h; omega
    · split at h
      · rename_i e1 h1; cases h; exact headD_err h1
      · split at h
        · rename_i e1 h1; cases h; exact kidsD_err (decF_err f) _ _ _ _ h1
        · cases h

/-- each beginning is too short -/
theorem dec_cut {t : Tm} (hs : sizeT t ≠ 0) (hb : AllB (bytesT t)) {m : Nat} (hm : m < (bytesT t).length) : decF 60 ((bytesT t).take m) 1200 = .error 7 := by
  have h0 : decF 60 (bytesT t ++ []) 1200 = .ok (t, [], (walkM t 1 1200).2) := decF_app t 60 1200 _ [] (Prod.ext (sizeT_ok.1 hs) rfl)
  rw [List.append_nil] at h0
  have hx := decF_ext ((bytesT t).drop m) 60 ((bytesT t).take m) 1200 (hb.take m)
  rw [List.take_append_drop, h0] at hx
  cases hd : decF 60 ((bytesT t).take m) 1200 with
  | ok p =>
    obtain ⟨t', r', l'⟩ := p
    have h1 := (hx.1 _ _ _ hd).1
    simp only [Except.ok.injEq, Prod.mk.injEq] at h1
    have h2 := congrArg List.length h1.2.1
    simp at h2
    omega
  | error e =>
    rcases decF_err _ _ _ _ hd with rfl | rfl
    · rfl
    · have := hx.2 hd; cases this
/-- kids, one by one -/
theorem kidsD_snoc {g : List Int → Int → Except Int (Tm × List Int × Int)} : ∀ (j : Nat) (bs : List Int) (l : Int) (ts : List Tm) (r : List Int) (l1 : Int) (t : Tm) (r2 : List Int) (l2 : Int), kidsD g j bs l = .ok (ts, r, l1) → g r l1 = .ok (t, r2, l2) → kidsD g (j + 1) bs l = .ok (ts ++ [t], r2, l2)
  | 0, bs, l, ts, r, l1, t, r2, l2, h, hg => by
    simp only [kidsD, Except.ok.injEq, Prod.mk.injEq] at h
    obtain ⟨rfl, rfl, rfl⟩ := h
    rw [kidsD, hg]; rfl
  | j + 1, bs, l, ts, r, l1, t, r2, l2, h, hg => by
    rw [kidsD] at h
    split at h
    · cases h
    · rename_i t3 r3 l3 h3
      split at h
      · cases h
      · rename_i ts4 r4 l4 h4
        simp only [Except.ok.injEq, Prod.mk.injEq] at h
        obtain ⟨rfl, rfl, rfl⟩ := h
        rw [kidsD, h3]
        simp only []
        rw [kidsD_snoc j _ _ _ _ _ _ _ _ h4 hg]
        rfl
theorem kidsD_stop {g : List Int → Int → Except Int (Tm × List Int × Int)} : ∀ (j : Nat) (m : Nat) (bs : List Int) (l : Int) (ts : List Tm) (r : List Int) (l1 e : Int), kidsD g j bs l = .ok (ts, r, l1) → g r l1 = .error e → j < m → kidsD g m bs l = .error e
  | 0, m + 1, bs, l, ts, r, l1, e, h, hg, _ => by
    simp only [kidsD, Except.ok.injEq, Prod.mk.injEq] at h
    obtain ⟨rfl, rfl, rfl⟩ := h
    rw [kidsD, hg]
  | j + 1, m + 1, bs, l, ts, r, l1, e, h, hg, hjm => by
    rw [kidsD] at h
    split at h
    · cases h
    · rename_i t3 r3 l3 h3
      split at h
      · cases h
      · rename_i ts4 r4 l4 h4
        simp only [Except.ok.injEq, Prod.mk.injEq] at h
        obtain ⟨rfl, rfl, rfl⟩ := h
        rw [kidsD, h3]
        simp only []
        rw [kidsD_stop j m _ _ _ _ _ _ h4 hg (by omega)]
  | _, 0, _, _, _, _, _, _, _, _, h => absurd h (Nat.not_lt_zero _)
end Go.Proofs.Ytfenikoajadiaaa
