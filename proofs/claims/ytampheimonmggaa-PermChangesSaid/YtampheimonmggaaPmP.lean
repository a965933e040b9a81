/-
  Plain facts about permissions: what sharing and taking back leave. No walk. Conditions: none.
-/
import Derived.Test.YtampheimonmggaaPmN
namespace Go.Proofs.Ytampheimonmggaa
open Go Go.RowKit Go.Sort
set_option linter.unusedSimpArgs false
set_option linter.unusedVariables false

theorem riseB_all {P : Int → Bool} {l : List Int} (h : riseB P l = true) : ∀ y ∈ l, P y = true := fun y hy => by
  obtain ⟨i, hi, rfl⟩ := List.mem_iff_getElem.1 hy
  have h1 := List.all_eq_true.1 h i (by simpa using hi)
  unfold risesAt at h1
  rw [getD_at hi] at h1
  simp at h1
  exact h1.1
theorem riseB_of {P : Int → Bool} {l : List Int} (hs : l.Pairwise (· < ·)) (h : ∀ y ∈ l, P y = true) : riseB P l = true := by
  refine List.all_eq_true.2 fun i hi => ?_
  have hi' : i < l.length := by simpa using hi
  unfold risesAt
  rw [getD_at hi', h _ (List.getElem_mem hi'), Bool.true_and]
  by_cases h0 : i = 0
  · subst h0; rfl
  · have := List.pairwise_iff_getElem.1 hs (i - 1) i (by omega) hi' (by omega)
    rw [getD_at (show i - 1 < l.length by omega)]
    simp [this]
theorem riseB_iff {P : Int → Bool} {l : List Int} : riseB P l = true ↔ l.Pairwise (· < ·) ∧ ∀ y ∈ l, P y = true :=
  ⟨fun h => ⟨riseB_pair h, riseB_all h⟩, fun h => riseB_of h.1 h.2⟩
theorem inB_iff {l : List Int} {x : Int} : inB l x = true ↔ x ∈ l := by
  unfold inB
  rw [List.any_eq_true]
  exact ⟨fun ⟨y, hy, e⟩ => by have : x = y := by simpa using e
                              subst this; exact hy, fun h => ⟨x, h, by simp⟩⟩
theorem inB_no {l : List Int} {x : Int} : inB l x = false ↔ x ∉ l := by rw [← inB_iff]; simp

theorem take_less : ∀ {l : List Int} (x : Int), l.Pairwise (· < ·) → l.take (lessN l x) = l.filter (fun y => decide (y < x)) ∧ l.drop (lessN l x) = l.filter (fun y => !decide (y < x))
  | [], x, _ => ⟨rfl, rfl⟩
  | a :: t, x, h => by
    have ht := List.pairwise_cons.1 h
    by_cases ha : a < x
    · have ih := take_less x ht.2
      have hN : lessN (a :: t) x = lessN t x + 1 := by unfold lessN; rw [List.countP_cons]; simp [ha]
      rw [hN, List.take_succ_cons, List.drop_succ_cons, ih.1, ih.2, List.filter_cons, List.filter_cons]
      simp [ha]
    · have hall : ∀ y ∈ a :: t, ¬ y < x := fun y hy => by
        rcases List.mem_cons.1 hy with rfl | hy
        · exact ha
        · have := ht.1 y hy; omega
      have hN : lessN (a :: t) x = 0 := by unfold lessN; rw [List.countP_eq_zero]; intro y hy; simpa using hall y hy
      rw [hN, List.take_zero, List.drop_zero]
      refine ⟨(List.filter_eq_nil_iff.2 (fun y hy => by simpa using hall y hy)).symm, (List.filter_eq_self.2 (fun y hy => by simpa using hall y hy)).symm⟩

theorem insL_less {l : List Int} {x : Int} (h : l.Pairwise (· < ·)) : insL l (lessN l x) x = l.filter (fun y => decide (y < x)) ++ x :: l.filter (fun y => !decide (y < x)) := by
  unfold insL; rw [(take_less x h).1, (take_less x h).2]
theorem insL_mem {l : List Int} {i : Nat} {x y : Int} : y ∈ insL l i x ↔ y = x ∨ y ∈ l := by
  unfold insL
  rw [List.mem_append, List.mem_cons]
  conv => rhs; rw [← List.take_append_drop i l, List.mem_append]
  constructor
  · rintro (h | h | h)
    · exact .inr (.inl h)
    · exact .inl h
    · exact .inr (.inr h)
  · rintro (h | h | h)
    · exact .inr (.inl h)
    · exact .inl h
    · exact .inr (.inr h)
theorem withL_mem {l : List Int} {x y : Int} : y ∈ withL l x ↔ y = x ∨ y ∈ l := by
  unfold withL
  split
  · rename_i h
    have hx : x ∈ l := inB_iff.1 h
    constructor
    · exact .inr
    · rintro (rfl | h)
      · exact hx
      · exact h
  · exact insL_mem
theorem withL_pair {l : List Int} {x : Int} (h : l.Pairwise (· < ·)) : (withL l x).Pairwise (· < ·) := by
  unfold withL
  split
  · exact h
  · rename_i hx
    have hx : x ∉ l := inB_no.1 (Bool.eq_false_iff.2 hx)
    rw [insL_less h]
    refine List.pairwise_append.2 ⟨h.filter _, List.pairwise_cons.2 ⟨fun y hy => ?_, h.filter _⟩, fun a ha b hb => ?_⟩
    · have := List.mem_filter.1 hy
      have h1 : ¬ y < x := by simpa using this.2
      have h2 : y ≠ x := fun e => hx (e ▸ this.1)
      omega
    · have h1 : a < x := by simpa using (List.mem_filter.1 ha).2
      rcases List.mem_cons.1 hb with rfl | hb
      · exact h1
      · have h2 : ¬ b < x := by simpa using (List.mem_filter.1 hb).2
        omega
theorem withL_rise {P : Int → Bool} {l : List Int} {x : Int} (h : riseB P l = true) (hx : P x = true) : riseB P (withL l x) = true :=
  riseB_of (withL_pair (riseB_pair h)) fun y hy => by
    rcases withL_mem.1 hy with rfl | hy
    · exact hx
    · exact riseB_all h y hy
theorem keepL_mem {P : Int → Bool} {l : List Int} {y : Int} : y ∈ keepL P l ↔ y ∈ l ∧ P y = false := by unfold keepL; rw [List.mem_filter]; simp
theorem keepL_rise {P Q : Int → Bool} {l : List Int} (h : riseB P l = true) : riseB P (keepL Q l) = true :=
  riseB_of ((riseB_pair h).filter _) fun y hy => riseB_all h y (keepL_mem.1 hy).1
theorem keepL_no {l : List Int} {x : Int} (h : x ∉ l) : keepL (x == ·) l = l := keepL_all fun y hy => by
  have : x ≠ y := fun e => h (e ▸ hy)
  simpa using this
theorem keepL_with {l : List Int} {x : Int} (h : x ∉ l) : keepL (x == ·) (withL l x) = l := by
  unfold withL
  rw [if_neg (by rw [show l.any (x == ·) = inB l x from rfl, inB_no.2 h]; simp)]
  have e : keepL (x == ·) (insL l (lessN l x) x) = keepL (x == ·) l := by
    unfold keepL insL
    rw [List.filter_append, List.filter_cons]
    simp
    rw [← List.filter_append, List.take_append_drop]
  rw [e, keepL_no h]

/-- what permissions that may be are -/
structure OkP (p : PmD) : Prop where
  o : userB p.o = true
  e : 1 ≤ p.e ∧ p.e ≤ 8
  r : riseB (otherB p.o) p.r = true
  q : riseB (otherB p.o) p.q = true
  g : riseB groupB p.g = true
  w : ∀ n ∈ p.q, n ∈ p.r
theorem okB_iff {p : PmD} : okB p = true ↔ OkP p := by
  unfold okB
  simp only [Bool.and_eq_true, decide_eq_true_eq, Bool.not_eq_true']
  have hw : (p.q.any (fun n => !(p.r.any (n == ·))) = false) ↔ ∀ n ∈ p.q, n ∈ p.r := by
    rw [List.any_eq_false]
    refine forall_congr' fun n => forall_congr' fun hn => ?_
    rw [← inB_iff]
    unfold inB
    simp
  rw [hw]
  exact ⟨fun ⟨a, b, c, d, e, f, g⟩ => ⟨a, ⟨b, c⟩, d, e, f, g⟩, fun h => ⟨h.o, h.e.1, h.e.2, h.r, h.q, h.g, h.w⟩⟩
theorem okB_noP : okB noP = false := rfl
theorem okB_no {p : PmD} (h : ¬ OkP p) : okB p = false := by
  cases hb : okB p with
  | false => rfl
  | true => exact (h (okB_iff.1 hb)).elim

/-- what a change leaves of permissions that may be, if it is done -/
theorem share_ok {p : PmD} (hp : OkP p) {b n : Int} {wr : Bool} (h : (shareR p b n wr).1 = 0) :
    b = p.o ∧ otherB p.o n = true ∧ ¬ (n ∈ p.r ∧ (wr = false ∨ n ∈ p.q)) ∧ (shareR p b n wr).2 = { p with r := withL p.r n, q := if wr = true then withL p.q n else p.q } ∧ OkP (shareR p b n wr).2 := by
  unfold shareR at h ⊢
  by_cases h1 : b = p.o
  · rw [if_neg (by simpa using h1)] at h ⊢
    by_cases h2 : userB n = false ∨ n = p.o
    · rw [if_pos h2] at h; cases h
    · rw [if_neg h2] at h ⊢
      by_cases h3 : inB p.r n = true ∧ (wr = false ∨ inB p.q n = true)
      · rw [if_pos h3] at h; cases h
      · rw [if_neg h3]
        have ho : otherB p.o n = true := by
          unfold otherB
          have a : userB n = true := by
            cases hu : userB n with
            | true => rfl
            | false => exact (h2 (.inl hu)).elim
          have b : n ≠ p.o := fun e => h2 (.inr e)
          simp [a, b]
        refine ⟨h1, ho, by rw [inB_iff, inB_iff] at h3; exact h3, rfl, hp.o, hp.e, withL_rise hp.r ho, ?_, hp.g, fun m hm => ?_⟩
        · show riseB _ (if wr = true then withL p.q n else p.q) = true
          split
          · exact withL_rise hp.q ho
          · exact hp.q
        · refine withL_mem.2 ?_
          have hm' : m ∈ (if wr = true then withL p.q n else p.q) := hm
          split at hm'
          · rcases withL_mem.1 hm' with h | h
            · exact .inl h
            · exact .inr (hp.w m h)
          · exact .inr (hp.w m hm')
  · rw [if_pos h1] at h; cases h

/-- PermBack's law -/
theorem back_law {p : PmD} {n : Int} {wr : Bool} (hn : n ∉ p.r) {q : PmD × Int} (hq : turnR p (shareR p p.o n wr) = q) :
    (q.2 ≠ 0 ∧ okB q.1 = false) ∨ (q.2 = 0 ∧ ∀ {r : PmD × Int}, turnR q.1 (backR q.1 p.o n) = r → (r.2 ≠ 0 ∧ r.2 = 212 ∧ p.e = 8) ∨ (r.2 = 0 ∧ r.1.e - 1 = p.e ∧ 2 ≤ r.1.e ∧ r.1.e ≤ 8 ∧ { r.1 with e := r.1.e - 1 } = p)) := by
  subst hq
  unfold turnR
  by_cases hok : okB p = true
  · rw [if_pos hok]
    have hp := okB_iff.1 hok
    by_cases h0 : (shareR p p.o n wr).1 = 0
    · rw [if_pos h0]
      obtain ⟨-, ho, -, hs, hok2⟩ := share_ok hp h0
      refine .inr ⟨rfl, ?_⟩
      rintro r rfl
      rw [if_pos (okB_iff.2 hok2)]
      have hnq : n ∉ p.q := fun h => hn (hp.w n h)
      rw [hs]
      have hu : userB n = true ∧ n ≠ p.o := by unfold otherB at ho; simpa using ho
      have hb : backR { p with r := withL p.r n, q := if wr = true then withL p.q n else p.q } p.o n = nextR { p with r := p.r, q := p.q } := by
        unfold backR
        rw [if_neg (by simp), if_neg (by simp [hu.1, hu.2]), if_neg (by rw [inB_iff.2 (withL_mem.2 (.inl rfl))]; simp)]
        congr 1
        rw [PmD.mk.injEq]
        refine ⟨rfl, rfl, keepL_with hn, ?_, rfl⟩
        show keepL (n == ·) (if wr = true then withL p.q n else p.q) = p.q
        split
        · exact keepL_with hnq
        · exact keepL_no hnq
      rw [hb]
      unfold nextR
      by_cases h8 : p.e = 8
      · rw [if_pos h8]
        exact .inl ⟨show (212 : Int) ≠ 0 by omega, rfl, h8⟩
      · rw [if_neg h8, if_pos rfl]
        refine .inr ⟨rfl, by show p.e + 1 - 1 = p.e; omega, by have := hp.e; show 2 ≤ p.e + 1; omega, by have := hp.e; show p.e + 1 ≤ 8; omega, ?_⟩
        rw [PmD.mk.injEq]
        exact ⟨rfl, by show p.e + 1 - 1 = p.e; omega, rfl, rfl, rfl⟩
    · rw [if_neg h0]
      exact .inl ⟨h0, okB_noP⟩
  · rw [if_neg hok]
    exact .inl ⟨by decide, okB_noP⟩

end Go.Proofs.Ytampheimonmggaa
