/-
  Layer 11, plain: what the reference says of a change is what the program does. No walk. Conditions: none.
-/
import Derived.Test.YtampheimonmggaaPmCh
import Derived.Test.YtampheimonmggaaPmT
namespace Go.Proofs.Ytampheimonmggaa
open Go Go.RowKit Go.Sort
set_option linter.unusedSimpArgs false
set_option linter.unusedVariables false

theorem pair_ext : ∀ {l m : List Int}, l.Pairwise (· < ·) → m.Pairwise (· < ·) → (∀ x, x ∈ l ↔ x ∈ m) → l = m
  | [], [], _, _, _ => rfl
  | [], b :: m, _, _, h => by have := (h b).2 List.mem_cons_self; cases this
  | a :: l, [], _, _, h => by have := (h a).1 List.mem_cons_self; cases this
  | a :: l, b :: m, hl, hm, h => by
    rw [List.pairwise_cons] at hl hm
    have hab : a = b := by
      rcases List.mem_cons.1 ((h a).1 List.mem_cons_self) with e | e
      · exact e
      · rcases List.mem_cons.1 ((h b).2 List.mem_cons_self) with e' | e'
        · exact e'.symm
        · have h1 := hm.1 a e; have h2 := hl.1 b e'; omega
    subst hab
    rw [pair_ext hl.2 hm.2 fun x => ⟨fun hx => by
      rcases List.mem_cons.1 ((h x).1 (List.mem_cons_of_mem _ hx)) with e | e
      · have := hl.1 x hx; omega
      · exact e, fun hx => by
      rcases List.mem_cons.1 ((h x).2 (List.mem_cons_of_mem _ hx)) with e | e
      · have := hm.1 x hx; omega
      · exact e⟩]
theorem setU_mem {l : List Int} {n : Int} {b : Bool} {x : Int} : ∀ {k : Nat}, x ∈ setU l n b k ↔ (1 ≤ x ∧ x ≤ k) ∧ setB l n b x = true
  | 0 => ⟨fun h => (by cases h), fun h => (by omega)⟩
  | k + 1 => by
    rw [setU_succ, List.mem_append, setU_mem (k := k)]
    by_cases hb : setB l n b ((k : Int) + 1) = true
    · rw [if_pos hb, List.mem_singleton]
      constructor
      · rintro (⟨h1, h2⟩ | rfl)
        · exact ⟨⟨h1.1, by omega⟩, h2⟩
        · exact ⟨⟨by omega, by omega⟩, hb⟩
      · rintro ⟨h1, h2⟩
        by_cases e : x = (k : Int) + 1
        · exact .inr e
        · exact .inl ⟨⟨h1.1, by omega⟩, h2⟩
    · rw [if_neg hb]
      constructor
      · rintro (⟨h1, h2⟩ | h)
        · exact ⟨⟨h1.1, by omega⟩, h2⟩
        · cases h
      · rintro ⟨h1, h2⟩
        by_cases e : x = (k : Int) + 1
        · subst e; exact (hb h2).elim
        · exact .inl ⟨⟨h1.1, by omega⟩, h2⟩
theorem setU_pair {l : List Int} {n : Int} {b : Bool} : ∀ k : Nat, (setU l n b k).Pairwise (· < ·)
  | 0 => List.Pairwise.nil
  | k + 1 => by
    rw [setU_succ]
    refine List.pairwise_append.2 ⟨setU_pair k, ?_, fun x hx y hy => ?_⟩
    · split <;> simp
    · have h1 := (setU_mem.1 hx).1.2
      split at hy
      · have e := List.mem_singleton.1 hy; omega
      · cases hy
theorem setU_true {l : List Int} {n : Int} (hl : l.Pairwise (· < ·)) (h6 : ∀ y ∈ l, 1 ≤ y ∧ y ≤ 6) (hn : 1 ≤ n ∧ n ≤ 6) : setU l n true 6 = withL l n :=
  pair_ext (setU_pair 6) (withL_pair hl) fun x => by
    rw [setU_mem, withL_mem]
    unfold setB
    by_cases e : x = n
    · subst e; simp; omega
    · have e1 : (x == n) = false := by simpa using e
      have e2 : (x != n) = true := by simpa using e
      rw [e1, e2]
      simp only [Bool.false_and, Bool.false_or, Bool.true_and, inB_iff]
      exact ⟨fun h => .inr h.2, fun h => by
        rcases h with h | h
        · exact (e h).elim
        · exact ⟨⟨(h6 x h).1, by have := (h6 x h).2; omega⟩, h⟩⟩
theorem setU_false {l : List Int} {n : Int} (hl : l.Pairwise (· < ·)) (h6 : ∀ y ∈ l, 1 ≤ y ∧ y ≤ 6) : setU l n false 6 = keepL (n == ·) l :=
  pair_ext (setU_pair 6) (hl.filter _) fun x => by
    rw [setU_mem, keepL_mem]
    unfold setB
    by_cases e : x = n
    · subst e; simp
    · have e1 : (x == n) = false := by simpa using e
      have e2 : (x != n) = true := by simpa using e
      have e3 : (n == x) = false := by simpa using Ne.symm e
      rw [e1, e2, e3]
      simp only [Bool.false_and, Bool.false_or, Bool.true_and, inB_iff]
      exact ⟨fun h => ⟨h.2, trivial⟩, fun h => ⟨⟨(h6 x h.1).1, by have := (h6 x h.1).2; omega⟩, h.1⟩⟩
theorem userB_iff {n : Int} : userB n = true ↔ 1 ≤ n ∧ n ≤ 6 := by unfold userB; simp
theorem groupB_iff {n : Int} : groupB n = true ↔ 1 ≤ n ∧ n ≤ 3 := by unfold groupB; simp
theorem rise_other {o : Int} {l : List Int} (h : riseB (otherB o) l = true) : l.Pairwise (· < ·) ∧ ∀ y ∈ l, 1 ≤ y ∧ y ≤ 6 :=
  ⟨(riseB_iff.1 h).1, fun y hy => by have h1 := (riseB_iff.1 h).2 y hy; unfold otherB at h1; rw [Bool.and_eq_true] at h1; exact userB_iff.1 h1.1⟩
theorem rise_group {l : List Int} (h : riseB groupB l = true) : l.Pairwise (· < ·) ∧ ∀ y ∈ l, 1 ≤ y ∧ y ≤ 6 :=
  ⟨(riseB_iff.1 h).1, fun y hy => by have h1 := groupB_iff.1 ((riseB_iff.1 h).2 y hy); omega⟩
theorem argU_iff {p : PmD} {n : Int} : argU p n ↔ (userB n = false ∨ n = p.o) := by
  unfold argU
  rw [← Bool.not_eq_true, userB_iff]
  constructor
  · rintro (h | h | h)
    · exact .inl (by omega)
    · exact .inl (by omega)
    · exact .inr h
  · rintro (h | h)
    · by_cases h1 : n < 1
      · exact .inl h1
      · exact .inr (.inl (by omega))
    · exact .inr (.inr h)
theorem argG_iff {n : Int} : argG n ↔ groupB n = false := by
  unfold argG
  rw [← Bool.not_eq_true, groupB_iff]
  omega
theorem argU_no {p : PmD} {n : Int} (h : ¬ argU p n) : 1 ≤ n ∧ n ≤ 6 := by unfold argU at h; omega
theorem argG_no {n : Int} (h : ¬ argG n) : 1 ≤ n ∧ n ≤ 6 := by unfold argG at h; omega

theorem nextC_turn {p q : PmD} (hp : OkP p) : turnR p (nextR q) = nextC q := by
  unfold turnR nextR nextC
  rw [if_pos (okB_iff.2 hp)]
  by_cases h : q.e = 8
  · rw [if_pos h, if_pos h]; rfl
  · rw [if_neg h, if_neg h]; rfl
theorem turn_bad {p : PmD} (h : okB p = false) (r : Int × PmD) : turnR p r = (noP, 210) := by unfold turnR; rw [if_neg (by rw [h]; simp)]
theorem turn_err {p : PmD} (h : OkP p) (e : Int) (q : PmD) (he : e ≠ 0) : turnR p (e, q) = (noP, e) := by unfold turnR; rw [if_pos (okB_iff.2 h), if_neg he]
theorem turn_ok {p : PmD} (h : OkP p) (q : PmD) : turnR p (0, q) = (q, 0) := by unfold turnR; rw [if_pos (okB_iff.2 h), if_pos rfl]

theorem share0_ch (p : PmD) (b n : Int) : turnR p (shareR p b n false) = ch0 p b n := by
  unfold ch0
  by_cases hk : OkP p
  rotate_left
  · rw [chA_perm (okB_no hk), turn_bad (okB_no hk)]
  have ho := okB_iff.2 hk
  unfold shareR
  by_cases hb : b = p.o
  rotate_left
  · rw [chA_owner ho hb, if_pos hb, turn_err hk _ _ (by decide)]
  rw [if_neg (by simpa using hb)]
  by_cases ha : argU p n
  · rw [chA_arg ho hb ha, if_pos (argU_iff.1 ha), turn_err hk _ _ (by decide)]
  rw [chA_go ho hb ha, if_neg (fun h => ha (argU_iff.2 h))]
  by_cases hi : inB p.r n = true
  · rw [if_pos hi, if_pos ⟨hi, .inl rfl⟩, turn_err hk _ _ (by decide)]
  · rw [if_neg hi, if_neg (fun h => hi h.1), turn_ok hk, setU_true (rise_other hk.r).1 (rise_other hk.r).2 (argU_no ha)]
    rfl
theorem share1_ch (p : PmD) (b n : Int) : turnR p (shareR p b n true) = ch1 p b n := by
  unfold ch1
  by_cases hk : OkP p
  rotate_left
  · rw [chA_perm (okB_no hk), turn_bad (okB_no hk)]
  have ho := okB_iff.2 hk
  unfold shareR
  by_cases hb : b = p.o
  rotate_left
  · rw [chA_owner ho hb, if_pos hb, turn_err hk _ _ (by decide)]
  rw [if_neg (by simpa using hb)]
  by_cases ha : argU p n
  · rw [chA_arg ho hb ha, if_pos (argU_iff.1 ha), turn_err hk _ _ (by decide)]
  rw [chA_go ho hb ha, if_neg (fun h => ha (argU_iff.2 h))]
  by_cases hi : inB p.q n = true
  · rw [if_pos hi, if_pos ⟨inB_iff.2 (hk.w n (inB_iff.1 hi)), .inr hi⟩, turn_err hk _ _ (by decide)]
  · rw [if_neg hi, if_neg (fun h => h.2.elim (fun h => by cases h) hi), turn_ok hk, setU_true (rise_other hk.r).1 (rise_other hk.r).2 (argU_no ha), setU_true (rise_other hk.q).1 (rise_other hk.q).2 (argU_no ha)]
    rfl
theorem back_ch (p : PmD) (b n : Int) : turnR p (backR p b n) = ch2 p b n := by
  unfold ch2
  by_cases hk : OkP p
  rotate_left
  · rw [chA_perm (okB_no hk), turn_bad (okB_no hk)]
  have ho := okB_iff.2 hk
  unfold backR
  by_cases hb : b = p.o
  rotate_left
  · rw [chA_owner ho hb, if_pos hb, turn_err hk _ _ (by decide)]
  rw [if_neg (by simpa using hb)]
  by_cases ha : argU p n
  · rw [chA_arg ho hb ha, if_pos (argU_iff.1 ha), turn_err hk _ _ (by decide)]
  rw [chA_go ho hb ha, if_neg (fun h => ha (argU_iff.2 h))]
  by_cases hi : inB p.r n = false
  · rw [if_pos hi, if_pos hi, turn_err hk _ _ (by decide)]
  · rw [if_neg hi, if_neg hi, nextC_turn hk, setU_false (rise_other hk.r).1 (rise_other hk.r).2, setU_false (rise_other hk.q).1 (rise_other hk.q).2]
theorem shareG_ch (p : PmD) (b n : Int) : turnR p (shareGR p b n) = ch3 p b n := by
  unfold ch3
  by_cases hk : OkP p
  rotate_left
  · rw [chA_perm (okB_no hk), turn_bad (okB_no hk)]
  have ho := okB_iff.2 hk
  unfold shareGR
  by_cases hb : b = p.o
  rotate_left
  · rw [chA_owner ho hb, if_pos hb, turn_err hk _ _ (by decide)]
  rw [if_neg (by simpa using hb)]
  by_cases ha : argG n
  · rw [chA_arg ho hb ha, if_pos (argG_iff.1 ha), turn_err hk _ _ (by decide)]
  rw [chA_go ho hb ha, if_neg (fun h => ha (argG_iff.2 h))]
  by_cases hi : inB p.g n = true
  · rw [if_pos hi, if_pos hi, turn_err hk _ _ (by decide)]
  · rw [if_neg hi, if_neg hi, turn_ok hk, setU_true (rise_group hk.g).1 (rise_group hk.g).2 (argG_no ha)]
theorem backG_ch (p : PmD) (b n : Int) : turnR p (backGR p b n) = ch4 p b n := by
  unfold ch4
  by_cases hk : OkP p
  rotate_left
  · rw [chA_perm (okB_no hk), turn_bad (okB_no hk)]
  have ho := okB_iff.2 hk
  unfold backGR
  by_cases hb : b = p.o
  rotate_left
  · rw [chA_owner ho hb, if_pos hb, turn_err hk _ _ (by decide)]
  rw [if_neg (by simpa using hb)]
  by_cases ha : argG n
  · rw [chA_arg ho hb ha, if_pos (argG_iff.1 ha), turn_err hk _ _ (by decide)]
  rw [chA_go ho hb ha, if_neg (fun h => ha (argG_iff.2 h))]
  by_cases hi : inB p.g n = false
  · rw [if_pos hi, if_pos hi, turn_err hk _ _ (by decide)]
  · rw [if_neg hi, if_neg hi, nextC_turn hk, setU_false (rise_group hk.g).1 (rise_group hk.g).2]
theorem next_ch (p : PmD) : turnR p (nextR p) = ch5 p := by
  unfold ch5
  by_cases hk : OkP p
  · rw [nextC_turn hk, if_neg (by rw [okB_iff.2 hk]; simp)]
  · rw [turn_bad (okB_no hk), if_pos (okB_no hk)]

/-- the reference's Change, whichever the kind -/
theorem rchange_any (p : PmD) (vr vq vg : Value) (a : Act3) (w : World) (hp : PmS w p vr vq vg) :
    Calls Try.prog 15 #[.agg (pmC p.o p.e vr vq vg).toArray, .int .i64 (kindF a.k), .int .i64 a.b, .int .i64 a.n] w (RefP w p vr vq vg (turnR p (doC p a))) := by
  unfold doC
  rcases kindF_cases a.k with h | h | h | h | h | h
  · rw [h, if_pos rfl, share0_ch]; exact rchange0_any p vr vq vg a.b a.n w hp
  · rw [h, if_neg (by decide), if_pos rfl, share1_ch]; exact rchange1_any p vr vq vg a.b a.n w hp
  · rw [h, if_neg (by decide), if_neg (by decide), if_pos rfl, back_ch]; exact rchange2_any p vr vq vg a.b a.n w hp
  · rw [h, if_neg (by decide), if_neg (by decide), if_neg (by decide), if_pos rfl, shareG_ch]; exact rchange3_any p vr vq vg a.b a.n w hp
  · rw [h, if_neg (by decide), if_neg (by decide), if_neg (by decide), if_neg (by decide), if_pos rfl, backG_ch]; exact rchange4_any p vr vq vg a.b a.n w hp
  · rw [h, if_neg (by decide), if_neg (by decide), if_neg (by decide), if_neg (by decide), if_neg (by decide), next_ch]; exact rchange5_any p vr vq vg a.b a.n w hp

end Go.Proofs.Ytampheimonmggaa
