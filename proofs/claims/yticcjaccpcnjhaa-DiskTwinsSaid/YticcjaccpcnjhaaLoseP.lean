/-
  Armed disks, and disks that are to fail, beside those that are not: plain. Conditions: none.
-/
import Derived.Test.YticcjaccpcnjhaaDuoE
namespace Go.Proofs.Yticcjaccpcnjhaa
open Go Go.RowKit
set_option linter.unusedSimpArgs false

def armed (y : Dk) (L : Int) : Dk := { y with arms := L }
def failing (y : Dk) (L : Int) : Dk := { y with fails := L }
def laysB (a : ActD) : Bool := decide (0 < kindF a.kind) && thereB a

theorem ask_in {x : Dk} {i : Int} {l : Bool} (ho : x.out = false) (h0 : 0 ≤ i) (h1 : i < x.size) (hf : x.fails ≠ 0) (ha : l = true → x.arms ≠ 0) :
    askE x i l = 0 ∧ askD x i l = { x with fails := decF x.fails, arms := if l = true then decF x.arms else x.arms } := by
  unfold askE askD
  have c1 : ¬ x.out = true := by rw [ho]; simp
  have c2 : ¬ (i < 0 ∨ x.size ≤ i) := by omega
  have c3 : ¬ (l = true ∧ x.arms = 0) := fun h => ha h.1 h.2
  simp only [if_neg c1, if_neg c2, if_neg hf, if_neg c3, and_self]
theorem ask_out {x : Dk} {i : Int} {l : Bool} (ho : x.out = false) (h : ¬ (0 ≤ i ∧ i < x.size)) : askE x i l = 2 ∧ askD x i l = x := by
  unfold askE askD
  have c1 : ¬ x.out = true := by rw [ho]; simp
  have c2 : i < 0 ∨ x.size ≤ i := by omega
  simp only [if_neg c1, if_pos c2, and_self]
theorem ask_hit {x : Dk} {i : Int} {l : Bool} (ho : x.out = false) (h0 : 0 ≤ i) (h1 : i < x.size) (hf : x.fails = 0) : askE x i l = 8 ∧ askD x i l = { x with fails := -1 } := by
  unfold askE askD
  have c1 : ¬ x.out = true := by rw [ho]; simp
  have c2 : ¬ (i < 0 ∨ x.size ≤ i) := by omega
  simp only [if_neg c1, if_neg c2, if_pos hf, and_self]
theorem ask_die' {x : Dk} {i : Int} {l : Bool} (hl : l = true) (ho : x.out = false) (h0 : 0 ≤ i) (h1 : i < x.size) (hf : x.fails ≠ 0) (ha : x.arms = 0) :
    askE x i l = 9 ∧ askD x i l = { x with fails := decF x.fails, arms := -1, out := true } := by
  unfold askE askD
  have c1 : ¬ x.out = true := by rw [ho]; simp
  have c2 : ¬ (i < 0 ∨ x.size ≤ i) := by omega
  have c3 : l = true ∧ x.arms = 0 := ⟨hl, ha⟩
  simp only [if_neg c1, if_neg c2, if_neg hf, if_pos c3, and_self]
theorem ask_die {x : Dk} {i : Int} (ho : x.out = false) (h0 : 0 ≤ i) (h1 : i < x.size) (hf : x.fails ≠ 0) (ha : x.arms = 0) :
    askE x i true = 9 ∧ askD x i true = { x with fails := decF x.fails, arms := -1, out := true } := ask_die' rfl ho h0 h1 hf ha

theorem decF_pos {n : Int} (h : 0 < n) : decF n = n - 1 := by unfold decF; rw [if_neg (by omega), if_pos h]
theorem decF_off : decF (-1) = -1 := rfl

section
variable {y : Dk} {L : Int} {i : Int} {l : Bool}
theorem armed_in (h : Idle y) (h0 : 0 ≤ i) (h1 : i < y.size) (hl : l = true → 0 < L) : askE (armed y L) i l = 0 ∧ askD (armed y L) i l = armed y (if l = true then L - 1 else L) := by
  obtain ⟨e1, e2⟩ := ask_in (x := armed y L) (i := i) (l := l) h.out h0 h1 (by rw [show (armed y L).fails = y.fails from rfl, h.fails]; omega) (fun e => by have := hl e; show L ≠ 0; omega)
  refine ⟨e1, e2.trans ?_⟩
  unfold armed
  simp only [h.fails, decF_off]
  cases l
  · rfl
  · rw [if_pos rfl, if_pos rfl, decF_pos (hl rfl)]
theorem armed_out (h : Idle y) (h0 : ¬ (0 ≤ i ∧ i < y.size)) : askE (armed y L) i l = 2 ∧ askD (armed y L) i l = armed y L := ask_out (x := armed y L) h.out h0
theorem armed_die (h : Idle y) (h0 : 0 ≤ i) (h1 : i < y.size) : askE (armed y 0) i true = 9 ∧ askD (armed y 0) i true = { armed y (-1) with out := true } := by
  obtain ⟨e1, e2⟩ := ask_die (x := armed y 0) (i := i) h.out h0 h1 (by rw [show (armed y 0).fails = y.fails from rfl, h.fails]; omega) rfl
  refine ⟨e1, e2.trans ?_⟩
  unfold armed
  simp only [h.fails, decF_off]
theorem failing_in (h : Idle y) (h0 : 0 ≤ i) (h1 : i < y.size) (hL : 0 < L) : askE (failing y L) i l = 0 ∧ askD (failing y L) i l = failing y (L - 1) := by
  obtain ⟨e1, e2⟩ := ask_in (x := failing y L) (i := i) (l := l) h.out h0 h1 (by show L ≠ 0; omega) (fun _ => by rw [show (failing y L).arms = y.arms from rfl, h.arms]; omega)
  refine ⟨e1, e2.trans ?_⟩
  unfold failing
  simp only [h.arms, decF_off, decF_pos hL, ite_self]
theorem failing_out (h : Idle y) (h0 : ¬ (0 ≤ i ∧ i < y.size)) : askE (failing y L) i l = 2 ∧ askD (failing y L) i l = failing y L := ask_out (x := failing y L) h.out h0
theorem failing_hit (h : Idle y) (h0 : 0 ≤ i) (h1 : i < y.size) : askE (failing y 0) i l = 8 ∧ askD (failing y 0) i l = failing y (-1) := ask_hit (x := failing y 0) h.out h0 h1 rfl
end

theorem kind3 {a : ActD} (h : kindF a.kind < 3) : kindF a.kind = 0 ∨ kindF a.kind = 1 ∨ kindF a.kind = 2 := by have := (kindF_bd a.kind).1; omega
theorem there_iff {a : ActD} (h : kindF a.kind ≠ 2) : thereB a = true ↔ (0 ≤ a.at_ ∧ a.at_ < 5) := by simp [thereB, h]
theorem there_2 {a : ActD} (h : kindF a.kind = 2) : thereB a = true := by simp [thereB, h]

/-- a read, a write, a sync by what is asked -/
theorem act0 {x : Dk} {a : ActD} (hk : kindF a.kind = 0) : actF x a = finD x a.at_ false (askD x a.at_ false) ∧ actB x a = (if askE x a.at_ false = 0 then x.holds a.at_ else zer) ∧ actE x a = askE x a.at_ false := by
  simp only [actF, actB, actE, hk, if_true, readD, readB, and_self]
theorem act1 {x : Dk} {a : ActD} (hk : kindF a.kind = 1) : actF x a = finD x a.at_ true { askD x a.at_ true with loose := x.loose ++ [(a.at_, fil a.fill)] } ∧ actB x a = zer ∧ actE x a = askE x a.at_ true := by
  simp only [actF, actB, actE, hk, if_true, Int.reduceEq, if_false, writeD, and_self]
theorem act2 {x : Dk} {a : ActD} (hk : kindF a.kind = 2) : actF x a = finD x 0 true (settleD (fun _ => true) (askD x 0 true)) ∧ actB x a = zer ∧ actE x a = askE x 0 true := by
  simp only [actF, actB, actE, hk, if_true, Int.reduceEq, if_false, syncD, and_self]

theorem idle_act {y : Dk} (h : Idle y) (h5 : y.size = 5) {a : ActD} (hk : kindF a.kind < 3) : Idle (actF y a) ∧ (actF y a).size = 5 ∧ actE y a = if thereB a = true then 0 else 2 := by
  rcases kind3 hk with hk | hk | hk
  · obtain ⟨e1, _, e3⟩ := act0 (x := y) hk
    rw [e1, e3]
    by_cases ht : 0 ≤ a.at_ ∧ a.at_ < 5
    · rw [fin_ok (idle_ok h _ ht.1 (by omega)), idle_askD h, idle_ok h _ ht.1 (by omega), if_pos ((there_iff (by omega)).2 ht)]
      exact ⟨⟨h.out, h.arms, h.fails⟩, h5, rfl⟩
    · rw [fin_not (by rw [idle_not h _ (by rwa [h5])]; omega), idle_askD h, idle_not h _ (by rwa [h5]), if_neg (fun e => ht ((there_iff (by omega)).1 e))]
      exact ⟨h, h5, rfl⟩
  · obtain ⟨e1, _, e3⟩ := act1 (x := y) hk
    rw [e1, e3]
    by_cases ht : 0 ≤ a.at_ ∧ a.at_ < 5
    · rw [fin_ok (idle_ok h _ ht.1 (by omega)), idle_askD h, idle_ok h _ ht.1 (by omega), if_pos ((there_iff (by omega)).2 ht)]
      exact ⟨⟨h.out, h.arms, h.fails⟩, h5, rfl⟩
    · rw [fin_not (by rw [idle_not h _ (by rwa [h5])]; omega), idle_askD h, idle_not h _ (by rwa [h5]), if_neg (fun e => ht ((there_iff (by omega)).1 e))]
      exact ⟨h, h5, rfl⟩
  · obtain ⟨e1, _, e3⟩ := act2 (x := y) hk
    rw [e1, e3]
    rw [fin_ok (idle_ok h _ (by omega) (by omega)), idle_askD h, idle_ok h _ (by omega) (by omega), if_pos (there_2 hk)]
    exact ⟨⟨h.out, h.arms, h.fails⟩, h5, rfl⟩

theorem armed_idles {y : Dk} (h : Idle y) (h5 : y.size = 5) {L : Int} {a : ActD} (hk : kindF a.kind < 3) (hl : laysB a = false) :
    actF (armed y L) a = armed (actF y a) L ∧ actB (armed y L) a = actB y a ∧ actE (armed y L) a = actE y a := by
  rcases kind3 hk with hk | hk | hk
  · obtain ⟨e1, e2, e3⟩ := act0 (x := armed y L) hk
    obtain ⟨f1, f2, f3⟩ := act0 (x := y) hk
    rw [e1, e2, e3, f1, f2, f3]
    by_cases ht : 0 ≤ a.at_ ∧ a.at_ < y.size
    · obtain ⟨g1, g2⟩ := armed_in (L := L) (l := false) h ht.1 ht.2 (fun e => by simp at e)
      rw [fin_ok g1, g1, g2, fin_ok (idle_ok h _ ht.1 (by omega)), idle_ok h _ ht.1 (by omega), idle_askD h]
      exact ⟨rfl, rfl, rfl⟩
    · obtain ⟨g1, g2⟩ := armed_out (L := L) (l := false) h ht
      rw [fin_not (by rw [g1]; omega), g1, g2, fin_not (by rw [idle_not h _ ht]; omega), idle_not h _ ht, idle_askD h]
      exact ⟨rfl, rfl, rfl⟩
  · obtain ⟨e1, e2, e3⟩ := act1 (x := armed y L) hk
    obtain ⟨f1, f2, f3⟩ := act1 (x := y) hk
    rw [e1, e2, e3, f1, f2, f3]
    have ht : ¬ (0 ≤ a.at_ ∧ a.at_ < y.size) := by rw [h5]; intro e; have := (there_iff (a := a) (by omega)).2 e; simp_all [laysB]
    · obtain ⟨g1, g2⟩ := armed_out (L := L) (l := true) h ht
      rw [fin_not (by rw [g1]; omega), g1, g2, fin_not (by rw [idle_not h _ ht]; omega), idle_not h _ ht, idle_askD h]
      exact ⟨rfl, rfl, rfl⟩
  · simp [laysB, there_2, hk] at hl

theorem armed_lays {y : Dk} (h : Idle y) (h5 : y.size = 5) {L : Int} {a : ActD} (hk : kindF a.kind < 3) (h0 : 0 < L) (hl : laysB a = true) :
    actF (armed y L) a = armed (actF y a) (L - 1) ∧ actB (armed y L) a = actB y a ∧ actE (armed y L) a = actE y a := by
  rcases kind3 hk with hk | hk | hk
  · simp [laysB, there_2, hk] at hl
  · obtain ⟨e1, e2, e3⟩ := act1 (x := armed y L) hk
    obtain ⟨f1, f2, f3⟩ := act1 (x := y) hk
    rw [e1, e2, e3, f1, f2, f3]
    have ht : 0 ≤ a.at_ ∧ a.at_ < y.size := by rw [h5]; exact (there_iff (by omega)).1 (by simp_all [laysB])
    · obtain ⟨g1, g2⟩ := armed_in (L := L) (l := true) h ht.1 ht.2 (fun _ => h0)
      rw [fin_ok g1, g1, g2, fin_ok (idle_ok h _ ht.1 (by omega)), idle_ok h _ ht.1 (by omega), idle_askD h]
      exact ⟨rfl, rfl, rfl⟩
  · obtain ⟨e1, e2, e3⟩ := act2 (x := armed y L) hk
    obtain ⟨f1, f2, f3⟩ := act2 (x := y) hk
    rw [e1, e2, e3, f1, f2, f3]
    have ht : (0 : Int) ≤ 0 ∧ (0 : Int) < y.size := by omega
    · obtain ⟨g1, g2⟩ := armed_in (L := L) (l := true) h ht.1 ht.2 (fun _ => h0)
      rw [fin_ok g1, g1, g2, fin_ok (idle_ok h _ ht.1 (by omega)), idle_ok h _ ht.1 (by omega), idle_askD h]
      exact ⟨rfl, rfl, rfl⟩

theorem failing_not {y : Dk} (h : Idle y) (h5 : y.size = 5) {L : Int} {a : ActD} (hk : kindF a.kind < 3) (hl : thereB a = false) :
    actF (failing y L) a = failing (actF y a) L ∧ actB (failing y L) a = actB y a ∧ actE (failing y L) a = actE y a := by
  rcases kind3 hk with hk | hk | hk
  · obtain ⟨e1, e2, e3⟩ := act0 (x := failing y L) hk
    obtain ⟨f1, f2, f3⟩ := act0 (x := y) hk
    rw [e1, e2, e3, f1, f2, f3]
    have ht : ¬ (0 ≤ a.at_ ∧ a.at_ < y.size) := by rw [h5]; intro e; have := (there_iff (a := a) (by omega)).2 e; simp_all [laysB]
    · obtain ⟨g1, g2⟩ := failing_out (L := L) (l := false) h ht
      rw [fin_not (by rw [g1]; omega), g1, g2, fin_not (by rw [idle_not h _ ht]; omega), idle_not h _ ht, idle_askD h]
      exact ⟨rfl, rfl, rfl⟩
  · obtain ⟨e1, e2, e3⟩ := act1 (x := failing y L) hk
    obtain ⟨f1, f2, f3⟩ := act1 (x := y) hk
    rw [e1, e2, e3, f1, f2, f3]
    have ht : ¬ (0 ≤ a.at_ ∧ a.at_ < y.size) := by rw [h5]; intro e; have := (there_iff (a := a) (by omega)).2 e; simp_all [laysB]
    · obtain ⟨g1, g2⟩ := failing_out (L := L) (l := true) h ht
      rw [fin_not (by rw [g1]; omega), g1, g2, fin_not (by rw [idle_not h _ ht]; omega), idle_not h _ ht, idle_askD h]
      exact ⟨rfl, rfl, rfl⟩
  · simp [laysB, there_2, hk] at hl

theorem failing_on {y : Dk} (h : Idle y) (h5 : y.size = 5) {L : Int} {a : ActD} (hk : kindF a.kind < 3) (h0 : 0 < L) (hl : thereB a = true) :
    actF (failing y L) a = failing (actF y a) (L - 1) ∧ actB (failing y L) a = actB y a ∧ actE (failing y L) a = actE y a := by
  rcases kind3 hk with hk | hk | hk
  · obtain ⟨e1, e2, e3⟩ := act0 (x := failing y L) hk
    obtain ⟨f1, f2, f3⟩ := act0 (x := y) hk
    rw [e1, e2, e3, f1, f2, f3]
    have ht : 0 ≤ a.at_ ∧ a.at_ < y.size := by rw [h5]; exact (there_iff (by omega)).1 (by simp_all [laysB])
    · obtain ⟨g1, g2⟩ := failing_in (L := L) (l := false) h ht.1 ht.2 h0
      rw [fin_ok g1, g1, g2, fin_ok (idle_ok h _ ht.1 (by omega)), idle_ok h _ ht.1 (by omega), idle_askD h]
      exact ⟨rfl, rfl, rfl⟩
  · obtain ⟨e1, e2, e3⟩ := act1 (x := failing y L) hk
    obtain ⟨f1, f2, f3⟩ := act1 (x := y) hk
    rw [e1, e2, e3, f1, f2, f3]
    have ht : 0 ≤ a.at_ ∧ a.at_ < y.size := by rw [h5]; exact (there_iff (by omega)).1 (by simp_all [laysB])
    · obtain ⟨g1, g2⟩ := failing_in (L := L) (l := true) h ht.1 ht.2 h0
      rw [fin_ok g1, g1, g2, fin_ok (idle_ok h _ ht.1 (by omega)), idle_ok h _ ht.1 (by omega), idle_askD h]
      exact ⟨rfl, rfl, rfl⟩
  · obtain ⟨e1, e2, e3⟩ := act2 (x := failing y L) hk
    obtain ⟨f1, f2, f3⟩ := act2 (x := y) hk
    rw [e1, e2, e3, f1, f2, f3]
    have ht : (0 : Int) ≤ 0 ∧ (0 : Int) < y.size := by omega
    · obtain ⟨g1, g2⟩ := failing_in (L := L) (l := true) h ht.1 ht.2 h0
      rw [fin_ok g1, g1, g2, fin_ok (idle_ok h _ ht.1 (by omega)), idle_ok h _ ht.1 (by omega), idle_askD h]
      exact ⟨rfl, rfl, rfl⟩

theorem armed_dies {y : Dk} (h : Idle y) (h5 : y.size = 5) {a : ActD} (hk : kindF a.kind < 3) (hl : laysB a = true) :
    actF (armed y 0) a = { armed y (-1) with out := true } ∧ actB (armed y 0) a = zer ∧ actE (armed y 0) a = 9 := by
  rcases kind3 hk with hk | hk | hk
  · simp [laysB, hk] at hl
  · obtain ⟨e1, e2, e3⟩ := act1 (x := armed y 0) hk
    have ht : 0 ≤ a.at_ ∧ a.at_ < y.size := by rw [h5]; exact (there_iff (by omega)).1 (by simp_all [laysB])
    obtain ⟨g1, g2⟩ := armed_die h ht.1 ht.2
    rw [e1, e2, e3, fin_not (by rw [g1]; omega), g1, g2]; exact ⟨rfl, rfl, rfl⟩
  · obtain ⟨e1, e2, e3⟩ := act2 (x := armed y 0) hk
    obtain ⟨g1, g2⟩ := armed_die h (i := 0) (by omega) (by omega)
    rw [e1, e2, e3, fin_not (by rw [g1]; omega), g1, g2]; exact ⟨rfl, rfl, rfl⟩

theorem dead_ask {x : Dk} (h : x.out = true) (i : Int) (l : Bool) : askE x i l = 9 ∧ askD x i l = x := ⟨if_pos h, if_pos h⟩
theorem dead_fin {x x3 : Dk} (h : x.out = true) (i : Int) (l : Bool) : finD x i l x3 = x := by rw [fin_not (by rw [(dead_ask h i l).1]; omega), (dead_ask h i l).2]
theorem dead_act {x : Dk} (h : x.out = true) {a : ActD} (hk : kindF a.kind < 3) : actF x a = x ∧ actB x a = zer ∧ actE x a = 9 := by
  rcases kind3 hk with hk | hk | hk
  · obtain ⟨e1, e2, e3⟩ := act0 (x := x) hk
    rw [e1, e2, e3, dead_fin h, (dead_ask h _ _).1, if_neg (by omega)]; exact ⟨rfl, rfl, rfl⟩
  · obtain ⟨e1, e2, e3⟩ := act1 (x := x) hk
    rw [e1, e2, e3, dead_fin h, (dead_ask h _ _).1]; exact ⟨rfl, rfl, rfl⟩
  · obtain ⟨e1, e2, e3⟩ := act2 (x := x) hk
    rw [e1, e2, e3, dead_fin h, (dead_ask h _ _).1]; exact ⟨rfl, rfl, rfl⟩

theorem failing_end {y : Dk} (h : Idle y) : failing y (-1) = y := by
  obtain ⟨s, f, lo, o, ar, fa, op⟩ := y
  obtain ⟨h1, h2, h3⟩ := h
  simp only at h1 h2 h3
  subst h1 h2 h3
  rfl

theorem failing_now {y : Dk} (h : Idle y) (h5 : y.size = 5) {a : ActD} (hk : kindF a.kind < 3) (hl : thereB a = true) :
    actF (failing y 0) a = y ∧ actB (failing y 0) a = zer ∧ actE (failing y 0) a = 8 := by
  rcases kind3 hk with hk | hk | hk
  · obtain ⟨e1, e2, e3⟩ := act0 (x := failing y 0) hk
    have ht : 0 ≤ a.at_ ∧ a.at_ < y.size := by rw [h5]; exact (there_iff (by omega)).1 hl
    obtain ⟨g1, g2⟩ := failing_hit (l := false) h ht.1 ht.2
    rw [e1, e2, e3, fin_not (by rw [g1]; omega), g1, g2, if_neg (by omega), failing_end h]; exact ⟨rfl, rfl, rfl⟩
  · obtain ⟨e1, e2, e3⟩ := act1 (x := failing y 0) hk
    have ht : 0 ≤ a.at_ ∧ a.at_ < y.size := by rw [h5]; exact (there_iff (by omega)).1 hl
    obtain ⟨g1, g2⟩ := failing_hit (l := true) h ht.1 ht.2
    rw [e1, e2, e3, fin_not (by rw [g1]; omega), g1, g2, failing_end h]; exact ⟨rfl, rfl, rfl⟩
  · obtain ⟨e1, e2, e3⟩ := act2 (x := failing y 0) hk
    obtain ⟨g1, g2⟩ := failing_hit (l := true) h (i := 0) (by omega) (by omega)
    rw [e1, e2, e3, fin_not (by rw [g1]; omega), g1, g2, failing_end h]; exact ⟨rfl, rfl, rfl⟩

end Go.Proofs.Yticcjaccpcnjhaa
