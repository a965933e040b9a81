/-
  Plain facts about permissions: what changes leave, whoever may read and write (the law PermGoes). No walk. Conditions: none.
-/
import Derived.Test.YtampheimonmggaaPmT
namespace Go.Proofs.Ytampheimonmggaa
open Go Go.RowKit Go.Sort
set_option linter.unusedSimpArgs false
set_option linter.unusedVariables false

theorem mayW_iff {p : PmD} {n : Int} : mayWB p n = true ↔ OkP p ∧ (n = p.o ∨ n ∈ p.q) := by
  unfold mayWB
  rw [Bool.and_eq_true, okB_iff, Bool.or_eq_true, beq_iff_eq, show p.q.any (n == ·) = inB p.q n from rfl, inB_iff]
theorem mayR_iff {p : PmD} {n : Int} {m : List (Int × Int)} : mayRB p n m = true ↔ OkP p ∧ ((n = p.o ∨ n ∈ p.r) ∨ (userB n = true ∧ ∃ g ∈ grpL m n, g ∈ p.g)) := by
  unfold mayRB
  rw [Bool.and_eq_true, okB_iff, Bool.or_eq_true, Bool.or_eq_true, beq_iff_eq, show p.r.any (n == ·) = inB p.r n from rfl, inB_iff, Bool.and_eq_true, List.any_eq_true]
  have : ∀ g : Int, (p.g.any (g == ·)) = inB p.g g := fun _ => rfl
  simp only [this, inB_iff]

theorem shareG_ok {p : PmD} (hp : OkP p) {b n : Int} (h : (shareGR p b n).1 = 0) :
    groupB n = true ∧ (shareGR p b n).2 = { p with g := withL p.g n } ∧ OkP (shareGR p b n).2 := by
  unfold shareGR at h ⊢
  by_cases h1 : b = p.o
  · rw [if_neg (by simpa using h1)] at h ⊢
    by_cases h2 : groupB n = false
    · rw [if_pos h2] at h; cases h
    · rw [if_neg h2] at h ⊢
      have h2' : groupB n = true := by simpa using h2
      by_cases h3 : inB p.g n = true
      · rw [if_pos h3] at h; cases h
      · rw [if_neg h3]
        exact ⟨h2', rfl, hp.o, hp.e, hp.r, hp.q, withL_rise hp.g h2', hp.w⟩
  · rw [if_pos h1] at h; cases h
theorem next_ok {p : PmD} (hp : OkP p) (h : (nextR p).1 = 0) : (nextR p).2 = { p with e := p.e + 1 } ∧ OkP (nextR p).2 := by
  unfold nextR at h ⊢
  by_cases h8 : p.e = 8
  · rw [if_pos h8] at h; cases h
  · rw [if_neg h8]
    exact ⟨rfl, hp.o, ⟨by have := hp.e; show 1 ≤ p.e + 1; omega, by have := hp.e; show p.e + 1 ≤ 8; omega⟩, hp.r, hp.q, hp.g, hp.w⟩
theorem back_ok {p : PmD} (hp : OkP p) {b n : Int} (h : (backR p b n).1 = 0) :
    (backR p b n).2 = { p with e := p.e + 1, r := keepL (n == ·) p.r, q := keepL (n == ·) p.q } ∧ OkP (backR p b n).2 := by
  unfold backR at h ⊢
  by_cases h1 : b = p.o
  · rw [if_neg (by simpa using h1)] at h ⊢
    by_cases h2 : userB n = false ∨ n = p.o
    · rw [if_pos h2] at h; cases h
    · rw [if_neg h2] at h ⊢
      by_cases h3 : inB p.r n = false
      · rw [if_pos h3] at h; cases h
      · rw [if_neg h3] at h ⊢
        have hp' : OkP { p with r := keepL (n == ·) p.r, q := keepL (n == ·) p.q } :=
          ⟨hp.o, hp.e, keepL_rise hp.r, keepL_rise hp.q, hp.g, fun m hm => by
            have := keepL_mem.1 hm
            exact keepL_mem.2 ⟨hp.w m this.1, this.2⟩⟩
        exact next_ok hp' h
  · rw [if_pos h1] at h; cases h
theorem backG_ok {p : PmD} (hp : OkP p) {b n : Int} (h : (backGR p b n).1 = 0) :
    (backGR p b n).2 = { p with e := p.e + 1, g := keepL (n == ·) p.g } ∧ OkP (backGR p b n).2 := by
  unfold backGR at h ⊢
  by_cases h1 : b = p.o
  · rw [if_neg (by simpa using h1)] at h ⊢
    by_cases h2 : groupB n = false
    · rw [if_pos h2] at h; cases h
    · rw [if_neg h2] at h ⊢
      by_cases h3 : inB p.g n = false
      · rw [if_pos h3] at h; cases h
      · rw [if_neg h3] at h ⊢
        have hp' : OkP { p with g := keepL (n == ·) p.g } := ⟨hp.o, hp.e, hp.r, hp.q, keepL_rise hp.g, hp.w⟩
        exact next_ok hp' h
  · rw [if_pos h1] at h; cases h

/-- what is left of permissions that may be -/
structure GoesP (p q : PmD) (a : Act3) (m : List (Int × Int)) : Prop where
  ok : OkP q
  o : q.o = p.o
  e : q.e = p.e ∨ q.e = p.e + 1
  t : (q.e > p.e) ↔ (kindF a.k = 2 ∨ kindF a.k = 4 ∨ kindF a.k = 5)
  wr : ∀ n, mayWB q n = true → mayRB q n [] = true
  r1 : ∀ n, mayRB p n m = true → (kindF a.k ≠ 2 ∨ n ≠ a.n) → kindF a.k ≠ 4 → mayRB q n m = true
  w1 : ∀ n, mayWB p n = true → (kindF a.k ≠ 2 ∨ n ≠ a.n) → mayWB q n = true
  r2 : ∀ n, (kindF a.k = 2 ∨ kindF a.k = 4) → mayRB q n m = true → mayRB p n m = true
  w2 : ∀ n, (kindF a.k = 2 ∨ kindF a.k = 4) → mayWB q n = true → mayWB p n = true

theorem wr_of {q : PmD} (hq : OkP q) (n : Int) (h : mayWB q n = true) : mayRB q n [] = true := by
  have := (mayW_iff.1 h).2
  exact mayR_iff.2 ⟨hq, .inl (this.imp id (hq.w n))⟩
theorem goes_law {p : PmD} (hp : OkP p) {a : Act3} {m : List (Int × Int)} (h : (doC p a).1 = 0) : GoesP p (doC p a).2 a m := by
  unfold doC at h ⊢
  rcases kindF_cases a.k with e | e | e | e | e | e
  · simp only [e] at h ⊢
    rw [if_pos trivial] at h ⊢
    obtain ⟨-, -, -, hs, hk⟩ := share_ok hp h
    rw [hs] at hk ⊢
    refine ⟨hk, rfl, .inl rfl, ?_, wr_of hk, fun n h1 _ _ => ?_, fun n h1 _ => ?_, fun n h1 => ?_, fun n h1 => ?_⟩
    · rw [e]; show p.e > p.e ↔ _; omega
    · have h2 := (mayR_iff.1 h1).2
      exact mayR_iff.2 ⟨hk, h2.imp (fun h => h.imp id (fun h => withL_mem.2 (.inr h))) id⟩
    · have h2 := (mayW_iff.1 h1).2
      exact mayW_iff.2 ⟨hk, h2⟩
    · rw [e] at h1; omega
    · rw [e] at h1; omega
  · simp only [e] at h ⊢
    rw [if_neg (by decide), if_pos trivial] at h ⊢
    obtain ⟨-, -, -, hs, hk⟩ := share_ok hp h
    rw [hs] at hk ⊢
    refine ⟨hk, rfl, .inl rfl, ?_, wr_of hk, fun n h1 _ _ => ?_, fun n h1 _ => ?_, fun n h1 => ?_, fun n h1 => ?_⟩
    · rw [e]; show p.e > p.e ↔ _; omega
    · have h2 := (mayR_iff.1 h1).2
      exact mayR_iff.2 ⟨hk, h2.imp (fun h => h.imp id (fun h => withL_mem.2 (.inr h))) id⟩
    · have h2 := (mayW_iff.1 h1).2
      exact mayW_iff.2 ⟨hk, h2.imp id (fun h => withL_mem.2 (.inr h))⟩
    · rw [e] at h1; omega
    · rw [e] at h1; omega
  · simp only [e] at h ⊢
    rw [if_neg (by decide), if_neg (by decide), if_pos trivial] at h ⊢
    obtain ⟨hs, hk⟩ := back_ok hp h
    rw [hs] at hk ⊢
    refine ⟨hk, rfl, .inr rfl, ?_, wr_of hk, fun n h1 h3 _ => ?_, fun n h1 h3 => ?_, fun n _ h1 => ?_, fun n _ h1 => ?_⟩
    · rw [e]; show p.e + 1 > p.e ↔ _; omega
    · have h2 := (mayR_iff.1 h1).2
      have hn : n ≠ a.n := by rcases h3 with h3 | h3; exact (h3 e).elim; exact h3
      exact mayR_iff.2 ⟨hk, h2.imp (fun h => h.imp id (fun h => keepL_mem.2 ⟨h, by simpa using fun e' => hn e'.symm⟩)) id⟩
    · have h2 := (mayW_iff.1 h1).2
      have hn : n ≠ a.n := by rcases h3 with h3 | h3; exact (h3 e).elim; exact h3
      exact mayW_iff.2 ⟨hk, h2.imp id (fun h => keepL_mem.2 ⟨h, by simpa using fun e' => hn e'.symm⟩)⟩
    · have h2 := (mayR_iff.1 h1).2
      exact mayR_iff.2 ⟨hp, h2.imp (fun h => h.imp id (fun h => (keepL_mem.1 h).1)) id⟩
    · have h2 := (mayW_iff.1 h1).2
      exact mayW_iff.2 ⟨hp, h2.imp id (fun h => (keepL_mem.1 h).1)⟩
  · simp only [e] at h ⊢
    rw [if_neg (by decide), if_neg (by decide), if_neg (by decide), if_pos trivial] at h ⊢
    obtain ⟨-, hs, hk⟩ := shareG_ok hp h
    rw [hs] at hk ⊢
    refine ⟨hk, rfl, .inl rfl, ?_, wr_of hk, fun n h1 _ _ => ?_, fun n h1 _ => ?_, fun n h1 => ?_, fun n h1 => ?_⟩
    · rw [e]; show p.e > p.e ↔ _; omega
    · have h2 := (mayR_iff.1 h1).2
      exact mayR_iff.2 ⟨hk, h2.imp id (fun ⟨a, g, b, c⟩ => ⟨a, g, b, withL_mem.2 (.inr c)⟩)⟩
    · exact mayW_iff.2 ⟨hk, (mayW_iff.1 h1).2⟩
    · rw [e] at h1; omega
    · rw [e] at h1; omega
  · simp only [e] at h ⊢
    rw [if_neg (by decide), if_neg (by decide), if_neg (by decide), if_neg (by decide), if_pos trivial] at h ⊢
    obtain ⟨hs, hk⟩ := backG_ok hp h
    rw [hs] at hk ⊢
    refine ⟨hk, rfl, .inr rfl, ?_, wr_of hk, fun n h1 _ h4 => (h4 e).elim, fun n h1 _ => ?_, fun n _ h1 => ?_, fun n _ h1 => ?_⟩
    · rw [e]; show p.e + 1 > p.e ↔ _; omega
    · exact mayW_iff.2 ⟨hk, (mayW_iff.1 h1).2⟩
    · have h2 := (mayR_iff.1 h1).2
      exact mayR_iff.2 ⟨hp, h2.imp id (fun ⟨a, g, b, c⟩ => ⟨a, g, b, (keepL_mem.1 c).1⟩)⟩
    · exact mayW_iff.2 ⟨hp, (mayW_iff.1 h1).2⟩
  · simp only [e] at h ⊢
    rw [if_neg (by decide), if_neg (by decide), if_neg (by decide), if_neg (by decide), if_neg (by decide)] at h ⊢
    obtain ⟨hs, hk⟩ := next_ok hp h
    rw [hs] at hk ⊢
    refine ⟨hk, rfl, .inr rfl, ?_, wr_of hk, fun n h1 _ _ => ?_, fun n h1 _ => ?_, fun n h1 => ?_, fun n h1 => ?_⟩
    · rw [e]; show p.e + 1 > p.e ↔ _; omega
    · exact mayR_iff.2 ⟨hk, (mayR_iff.1 h1).2⟩
    · exact mayW_iff.2 ⟨hk, (mayW_iff.1 h1).2⟩
    · rw [e] at h1; omega
    · rw [e] at h1; omega

theorem keep_N {k : Nat} {p : PmD} (h : PmN k p) (a b : Int) (q : PmD) (hq : q = { p with r := keepL (a == ·) p.r, q := keepL (b == ·) p.q }) : PmN k q := by
  subst hq
  exact ⟨Nat.le_trans (keepL_len _ _) h.1, Nat.le_trans (keepL_len _ _) h.2.1, h.2.2⟩
theorem next_N {k : Nat} {p : PmD} (h : PmN k p) : PmN k (nextR p).2 := by
  unfold nextR; split
  · exact h
  · exact h
theorem do_N {k : Nat} {p : PmD} (h : PmN k p) (a : Act3) : PmN (k + 1) (doC p a).2 := by
  have h' : PmN (k + 1) p := ⟨Nat.le_succ_of_le h.1, Nat.le_succ_of_le h.2.1, Nat.le_succ_of_le h.2.2⟩
  unfold doC
  split
  · exact share_N h _ _ _
  · split
    · exact share_N h _ _ _
    · split
      · unfold backR
        split
        · exact h'
        · split
          · exact h'
          · split
            · exact h'
            · exact next_N (keep_N h' a.n a.n _ rfl)
      · split
        · unfold shareGR
          split
          · exact h'
          · split
            · exact h'
            · split
              · exact h'
              · exact ⟨h'.1, h'.2.1, Nat.le_trans (withL_len _ _) (Nat.succ_le_succ h.2.2)⟩
        · split
          · unfold backGR
            split
            · exact h'
            · split
              · exact h'
              · split
                · exact h'
                · exact next_N ⟨h'.1, h'.2.1, Nat.le_trans (keepL_len _ _) h'.2.2⟩
          · exact next_N h'

/-- one round's answer -/
theorem round_law {p : PmD} (hp : OkP p) {a : Act3} {m : List (Int × Int)} {q : PmD} {e : Int} (h : turnR p (doC p a) = (q, e)) : (e ≠ 0 ∧ okB q = false) ∨ (e = 0 ∧ GoesP p q a m) := by
  unfold turnR at h
  rw [if_pos (okB_iff.2 hp)] at h
  by_cases h0 : (doC p a).1 = 0
  · rw [if_pos h0] at h
    simp only [Prod.mk.injEq] at h
    obtain ⟨rfl, rfl⟩ := h
    exact .inr ⟨rfl, goes_law hp h0⟩
  · rw [if_neg h0] at h
    simp only [Prod.mk.injEq] at h
    obtain ⟨rfl, rfl⟩ := h
    exact .inl ⟨h0, okB_noP⟩

end Go.Proofs.Ytampheimonmggaa
