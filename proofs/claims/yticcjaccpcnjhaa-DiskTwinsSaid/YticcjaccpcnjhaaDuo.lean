/-
  One or two disks beside other blocks: what a call leaves of them. Conditions: at most 2^30 writes and acts.
-/
import Derived.Test.YticcjaccpcnjhaaFrameD
namespace Go.Proofs.Yticcjaccpcnjhaa
open Go Go.RowKit

/-- the second disk, if there is one -/
def Sec (w : World) (T : Nat → Prop) : Option (Nat × Dk) → Prop
  | none => True
  | some (q, y) => DkAt w q T y

theorem Sec.keep {w w' : World} {T U : Nat → Prop} {o : Option (Nat × Dk)} (h : Sec w T o) (hc : Ch U w w') (hS : ∀ k, T k → ¬ U k) : Sec w' T o := by
  match o, h with
  | none, _ => trivial
  | some (q, y), h => exact DkAt.keep h hc hS

/-- since w: the disk x at p, a second one, and the other blocks R, all apart -/
def Duo (w wr : World) (p : Nat) (x : Dk) (o : Option (Nat × Dk)) (R : Nat → Prop) : Prop :=
  ∃ S T, DkAt wr p S x ∧ Sec wr T o ∧ (∀ k, S k → w.heap.size ≤ k ∧ ¬ T k ∧ ¬ R k) ∧ (∀ k, T k → w.heap.size ≤ k ∧ k < wr.heap.size ∧ ¬ R k) ∧ (∀ k, R k → w.heap.size ≤ k ∧ k < wr.heap.size) ∧ Below w.heap.size w wr

theorem Duo.b {w wr : World} {p : Nat} {x : Dk} {o : Option (Nat × Dk)} {R : Nat → Prop} (h : Duo w wr p x o R) : Below w.heap.size w wr := by
  obtain ⟨_, _, _, _, _, _, _, h⟩ := h; exact h

theorem Duo.swap {w wr : World} {p q : Nat} {x y : Dk} {R : Nat → Prop} (h : Duo w wr p x (some (q, y)) R) : Duo w wr q y (some (p, x)) R := by
  obtain ⟨S, T, h1, h2, h3, h4, h5, h6⟩ := h
  exact ⟨T, S, h2, h1, fun k hk => ⟨(h4 k hk).1, fun hs => (h3 k hs).2.1 hk, (h4 k hk).2.2⟩, fun k hk => ⟨(h3 k hk).1, h1.bd k hk, (h3 k hk).2.2⟩, h5, h6⟩

theorem Duo.less {w wr : World} {p : Nat} {x : Dk} {o : Option (Nat × Dk)} {R R' : Nat → Prop} (h : Duo w wr p x o R) (hr : ∀ k, R' k → R k) : Duo w wr p x o R' := by
  obtain ⟨S, T, h1, h2, h3, h4, h5, h6⟩ := h
  exact ⟨S, T, h1, h2, fun k hk => ⟨(h3 k hk).1, (h3 k hk).2.1, fun hs => (h3 k hk).2.2 (hr k hs)⟩, fun k hk => ⟨(h4 k hk).1, (h4 k hk).2.1, fun hs => (h4 k hk).2.2 (hr k hs)⟩, fun k hk => h5 k (hr k hk), h6⟩

theorem Duo.off {w wr : World} {p : Nat} {x : Dk} {o : Option (Nat × Dk)} {R : Nat → Prop} (h : Duo w wr p x o R) : Duo w wr p x none R := by
  obtain ⟨S, T, h1, h2, h3, h4, h5, h6⟩ := h
  exact ⟨S, fun _ => False, h1, trivial, fun k hk => ⟨(h3 k hk).1, fun h => h, (h3 k hk).2.2⟩, fun k hk => hk.elim, h5, h6⟩

theorem Duo.below {w wr w' : World} {p : Nat} {x : Dk} {o : Option (Nat × Dk)} {R : Nat → Prop} (h : Duo w wr p x o R) (hb : Below wr.heap.size wr w') : Duo w w' p x o R := by
  obtain ⟨S, T, h1, h2, h3, h4, h5, h6⟩ := h
  have hc := Ch.of_below (S := fun _ => False) hb (Nat.le_refl _)
  have := hb.size
  exact ⟨S, T, h1.keep hc (fun _ _ h => h), h2.keep hc (fun _ _ h => h), h3, fun k hk => ⟨(h4 k hk).1, by have := (h4 k hk).2.1; omega, (h4 k hk).2.2⟩, fun k hk => ⟨(h5 k hk).1, by have := (h5 k hk).2; omega⟩, below_thn h6 hb (Nat.le_refl _)⟩

/-- a block more -/
theorem Duo.more {w wr w' : World} {p : Nat} {x : Dk} {o : Option (Nat × Dk)} {R : Nat → Prop} (h : Duo w wr p x o R) (hb : Below wr.heap.size wr w') (hs : w'.heap.size = wr.heap.size + 1) : Duo w w' p x o (fun k => R k ∨ k = wr.heap.size) := by
  obtain ⟨S, T, h1, h2, h3, h4, h5, h6⟩ := h
  have hc := Ch.of_below (S := fun _ => False) hb (Nat.le_refl _)
  have := hb.size
  have := h6.size
  refine ⟨S, T, h1.keep hc (fun _ _ h => h), h2.keep hc (fun _ _ h => h), fun k hk => ⟨(h3 k hk).1, (h3 k hk).2.1, ?_⟩, fun k hk => ⟨(h4 k hk).1, by have := (h4 k hk).2.1; omega, ?_⟩, fun k hk => ?_, below_thn h6 hb (Nat.le_refl _)⟩
  · rintro (hr | hr)
    · exact (h3 k hk).2.2 hr
    · have := h1.bd k hk; omega
  · rintro (hr | hr)
    · exact (h4 k hk).2.2 hr
    · have := (h4 k hk).2.1; omega
  · rcases hk with hk | hk
    · exact ⟨(h5 k hk).1, by have := (h5 k hk).2; omega⟩
    · omega

/-- a store into one of the other blocks -/
theorem Duo.store {w wr w' : World} {p g : Nat} {x : Dk} {o : Option (Nat × Dk)} {R : Nat → Prop} (h : Duo w wr p x o R) (hc : Ch (· = g) wr w') (hg : R g) : Duo w w' p x o R := by
  obtain ⟨S, T, h1, h2, h3, h4, h5, h6⟩ := h
  have := hc.size
  refine ⟨S, T, h1.keep hc (fun k hk e => (h3 k hk).2.2 ((show k = g from e) ▸ hg)), h2.keep hc (fun k hk e => (h4 k hk).2.2 ((show k = g from e) ▸ hg)), h3, fun k hk => ⟨(h4 k hk).1, by have := (h4 k hk).2.1; omega, (h4 k hk).2.2⟩, fun k hk => ⟨(h5 k hk).1, by have := (h5 k hk).2; omega⟩, below_ch h6 hc (Nat.le_refl _) (fun k hk => by rw [show k = g from hk]; exact (h5 g hg).1)⟩

/-- what a call does that turns the first disk -/
def Did (w wr w' : World) (p : Nat) (x' : Dk) (o : Option (Nat × Dk)) (R : Nat → Prop) : Prop := Duo w w' p x' o R ∧ Ch (fun k => ¬ R k) wr w'

theorem did_step {w wr w' : World} {p : Nat} {S T R : Nat → Prop} {x' : Dk} {o : Option (Nat × Dk)} (h2 : Sec wr T o) (h3 : ∀ k, S k → w.heap.size ≤ k ∧ ¬ T k ∧ ¬ R k) (h4 : ∀ k, T k → w.heap.size ≤ k ∧ k < wr.heap.size ∧ ¬ R k) (h5 : ∀ k, R k → w.heap.size ≤ k ∧ k < wr.heap.size) (h6 : Below w.heap.size w wr)
    (hd : DkAt w' p (Gr S wr w') x') (hc : Ch S wr w') : Did w wr w' p x' o R := by
  have := hc.size
  have := h6.size
  refine ⟨⟨Gr S wr w', T, hd, h2.keep hc (fun k hk hs => (h3 k hs).2.1 hk), fun k hk => ?_, fun k hk => ⟨(h4 k hk).1, by have := (h4 k hk).2.1; omega, (h4 k hk).2.2⟩, fun k hk => ⟨(h5 k hk).1, by have := (h5 k hk).2; omega⟩, below_ch h6 hc (Nat.le_refl _) (fun k hk => (h3 k hk).1)⟩, hc.mono (fun k hk => (h3 k hk).2.2)⟩
  rcases hk with hk | hk
  · exact h3 k hk
  · exact ⟨by omega, fun ht => by have := (h4 k ht).2.1; omega, fun hr => by have := (h5 k hr).2; omega⟩

theorem did_below {w wr w' : World} {p : Nat} {x : Dk} {o : Option (Nat × Dk)} {R : Nat → Prop} (h : Duo w wr p x o R) (hb : Below wr.heap.size wr w') : Did w wr w' p x o R :=
  ⟨h.below hb, Ch.of_below hb (Nat.le_refl _)⟩

section
variable {w wr : World} {p q : Nat} {x y : Dk} {o : Option (Nat × Dk)} {R : Nat → Prop}

theorem act_duo (a : ActD) (ao : Option Addr) (len cp n : Nat) (x' : Dk) (b : List Int) (m : Int) (h : Duo w wr p x o R) (hx : x.Ok n) (hn : n ≤ 1073741824) (ha : ActOk wr a (.slice ao len cp)) (hk : kindF a.kind ≠ 6) (h1 : actF x a = x') (h2 : actB x a = b) (h3 : actE x a = m) :
    Calls Try.prog 33 #[.pointer (some ⟨p, 0, none⟩), .agg (actC a (.slice ao len cp)).toArray] wr (fun e w' => e = .returned (.tuple #[.pointer (some ⟨p, 0, none⟩), .agg (ofK .u8 b).toArray, .int .i64 m]) ∧ Did w wr w' p x' o R) := by
  obtain ⟨S, T, g1, g2, g3, g4, g5, g6⟩ := h
  subst h1 h2 h3
  refine (act_any p S x a ao len cp n wr g1 hx hn ha).mono ?_
  rintro e w' ⟨q, rfl, hd, hc, hq, _⟩
  rw [hq hk] at hd ⊢
  exact ⟨rfl, did_step g2 g3 g4 g5 g6 hd hc⟩
theorem act_duo2 (a : ActD) (ao : Option Addr) (len cp n : Nat) (y' : Dk) (b : List Int) (m : Int) (h : Duo w wr p x (some (q, y)) R) (hx : y.Ok n) (hn : n ≤ 1073741824) (ha : ActOk wr a (.slice ao len cp)) (hk : kindF a.kind ≠ 6) (h1 : actF y a = y') (h2 : actB y a = b) (h3 : actE y a = m) :
    Calls Try.prog 33 #[.pointer (some ⟨q, 0, none⟩), .agg (actC a (.slice ao len cp)).toArray] wr (fun e w' => e = .returned (.tuple #[.pointer (some ⟨q, 0, none⟩), .agg (ofK .u8 b).toArray, .int .i64 m]) ∧ Did w wr w' p x (some (q, y')) R) :=
  (act_duo a ao len cp n y' b m h.swap hx hn ha hk h1 h2 h3).mono fun _ _ h => ⟨h.1, h.2.1.swap, h.2.2⟩

theorem asks_duo (a : ActD) (kv : Value) (b : Bool) (h : Duo w wr p x o R) (hb : decide (kindF a.kind < 3) = b) :
    Calls Try.prog 31 #[.agg (actC a kv).toArray] wr (fun e w' => e = .returned (.bool b) ∧ Did w wr w' p x o R) :=
  (asks_go a.kind a.at_ a.n a.fill _ kv b wr rfl hb).mono fun _ _ g => ⟨g.1, did_below h g.2⟩
theorem there_duo (a : ActD) (kv : Value) (b : Bool) (h : Duo w wr p x o R) (hb : thereB a = b) :
    Calls Try.prog 32 #[.agg (actC a kv).toArray] wr (fun e w' => e = .returned (.bool b) ∧ Did w wr w' p x o R) :=
  (there_go a.kind a.at_ a.n a.fill kv b wr hb).mono fun _ _ g => ⟨g.1, did_below h g.2⟩
theorem kind_duo (a : ActD) (kv : Value) (k : Int) (h : Duo w wr p x o R) (hb : kindF a.kind = k) :
    Calls Try.prog 34 #[.agg (actC a kv).toArray] wr (fun e w' => e = .returned (.int .i64 k) ∧ Did w wr w' p x o R) :=
  (kind_go a.kind a.at_ a.n a.fill k kv wr hb).mono fun _ _ g => ⟨g.1, did_below h g.2⟩

theorem ops_duo (m : Int) (h : Duo w wr p x o R) (h1 : x.ops = m) : Calls Try.prog 27 #[.pointer (some ⟨p, 0, none⟩)] wr (fun e w' => e = .returned (.int .i64 m) ∧ wr = w') := by
  obtain ⟨S, T, g1, _⟩ := h; exact ops_at p S x m wr g1 h1
theorem dead_duo (b : Bool) (h : Duo w wr p x o R) (h1 : x.out = b) : Calls Try.prog 28 #[.pointer (some ⟨p, 0, none⟩)] wr (fun e w' => e = .returned (.bool b) ∧ wr = w') := by
  obtain ⟨S, T, g1, _⟩ := h; exact dead_at p S x b wr g1 h1
theorem len_duo (m : Int) (h : Duo w wr p x o R) (h1 : x.size = m) : Calls Try.prog 26 #[.pointer (some ⟨p, 0, none⟩)] wr (fun e w' => e = .returned (.int .i64 m) ∧ wr = w') := by
  obtain ⟨S, T, g1, _⟩ := h; exact len_at p S x m wr g1 h1

theorem pending_duo (n L : Nat) (h : Duo w wr p x o R) (hx : x.Ok n) (hn : n ≤ 1073741824) (hL : x.loose.length = L) :
    Calls Try.prog 29 #[.pointer (some ⟨p, 0, none⟩)] wr (fun e w' => ∃ ao c, e = .returned (.slice ao L c) ∧ Sl w' (.slice ao L c) (ofK .i64 (wrAts x.loose)) ∧ Did w wr w' p x o R) := by
  have h' := h
  obtain ⟨S, T, g1, _⟩ := h
  refine (pending_any p S x n L wr g1 hx hn hL.symm).mono ?_
  rintro e w' ⟨v, rfl, hown, hb⟩
  obtain ⟨vo, vc, rfl⟩ := own_shape hown
  exact ⟨vo, vc, rfl, Sl.of_owns hown, did_below h' hb⟩

theorem content_duo (n : Nat) (c : List Int) (h : Duo w wr p x o R) (hx : x.Ok n) (hn : n ≤ 1073741800) (h5 : x.size = 5) (hc : contentL x = c) :
    Calls Try.prog 35 #[.pointer (some ⟨p, 0, none⟩)] wr (fun e w' => e = .returned (.agg (ofK .u8 c).toArray) ∧ Did w wr w' p x o R) := by
  have h' := h
  obtain ⟨S, T, g1, _⟩ := h
  subst hc
  exact (content_any p S x n wr g1 hx hn h5).mono fun _ _ g => ⟨g.1, did_below h' g.2⟩

theorem of_actP {S T : Nat → Prop} {x' : Dk} {v : Value} {e : Ending} {w' : World} (g2 : Sec wr T o) (g3 : ∀ k, S k → w.heap.size ≤ k ∧ ¬ T k ∧ ¬ R k) (g4 : ∀ k, T k → w.heap.size ≤ k ∧ k < wr.heap.size ∧ ¬ R k) (g5 : ∀ k, R k → w.heap.size ≤ k ∧ k < wr.heap.size) (g6 : Below w.heap.size w wr) (h : ActP wr p S x' v e w') :
    e = .returned v ∧ Did w wr w' p x' o R := ⟨h.1, did_step g2 g3 g4 g5 g6 h.2.1 h.2.2⟩

theorem arm_duo (k m : Int) (x' : Dk) (h : Duo w wr p x o R) (h1 : armF x k = x') (h2 : powE x = m) :
    Calls Try.prog 24 #[.pointer (some ⟨p, 0, none⟩), .int .i64 k] wr (fun e w' => e = .returned (.int .i64 m) ∧ Did w wr w' p x' o R) := by
  obtain ⟨S, T, g1, g2, g3, g4, g5, g6⟩ := h
  exact (arm_at p S x x' k m wr g1 h1 h2).mono fun _ _ h => of_actP g2 g3 g4 g5 g6 h
theorem fail_duo (k m : Int) (x' : Dk) (h : Duo w wr p x o R) (h1 : failF x k = x') (h2 : powE x = m) :
    Calls Try.prog 25 #[.pointer (some ⟨p, 0, none⟩), .int .i64 k] wr (fun e w' => e = .returned (.int .i64 m) ∧ Did w wr w' p x' o R) := by
  obtain ⟨S, T, g1, g2, g3, g4, g5, g6⟩ := h
  exact (fail_at p S x x' k m wr g1 h1 h2).mono fun _ _ h => of_actP g2 g3 g4 g5 g6 h
theorem sync_duo (n : Nat) (m : Int) (x' : Dk) (h : Duo w wr p x o R) (hx : x.Ok n) (hn : n ≤ 1073741824) (h1 : syncD x = x') (h2 : askE x 0 true = m) :
    Calls Try.prog 23 #[.pointer (some ⟨p, 0, none⟩)] wr (fun e w' => e = .returned (.int .i64 m) ∧ Did w wr w' p x' o R) := by
  obtain ⟨S, T, g1, g2, g3, g4, g5, g6⟩ := h
  exact (sync_at p S x x' m n wr g1 hx hn h1 h2).mono fun _ _ h => of_actP g2 g3 g4 g5 g6 h
theorem crash_duo (ao : Option Addr) (len c n : Nat) (bs : List Bool) (x' : Dk) (h : Duo w wr p x o R) (hx : x.Ok n) (hn : n ≤ 1073741824) (hs : Sl wr (.slice ao len c) (bs.map Value.bool)) (hv : ∀ k, (Value.slice ao len c).ownBlock = some k → R k ∨ k < w.heap.size) (h1 : crashD bs x = x') :
    Calls Try.prog 15 #[.pointer (some ⟨p, 0, none⟩), .slice ao len c] wr (fun e w' => e = .returned (.int .i64 0) ∧ Did w wr w' p x' o R) := by
  obtain ⟨S, T, g1, g2, g3, g4, g5, g6⟩ := h
  exact (crash_at p S x x' ao len c bs n wr g1 hx hn hs (fun k hk hS => by rcases hv k hk with h | h; exact (g3 k hS).2.2 h; have := (g3 k hS).1; omega) h1).mono fun _ _ h => of_actP g2 g3 g4 g5 g6 h
theorem read_duo (i : Int) (b : List Int) (m : Int) (n : Nat) (x' : Dk) (h : Duo w wr p x o R) (hx : x.Ok n) (hn : n ≤ 1073741824) (h1 : readD x i = x') (h2 : askE x i false = m) (h3 : readB x i = b) :
    Calls Try.prog 17 #[.pointer (some ⟨p, 0, none⟩), .int .i64 i] wr (fun e w' => e = .returned (.tuple #[.agg (ofK .u8 b).toArray, .int .i64 m]) ∧ Did w wr w' p x' o R) := by
  obtain ⟨S, T, g1, g2, g3, g4, g5, g6⟩ := h
  exact (read_at p S x x' i b m n wr g1 hx hn h1 h2 h3).mono fun _ _ h => ⟨h.1, did_step g2 g3 g4 g5 g6 h.2.1 h.2.2⟩

end

/-- the content of five sectors is the same as itself -/
theorem part_blk {c : List Int} (hc : c.length = 320) {i : Nat} (hi : i < 5) (w : World) : ∃ l : List Int, l.length = 64 ∧ (part 39 (ofK .u8 c).toArray (i * 64)).run Try.prog w = .ok (.agg (ofK .u8 l).toArray) w := by
  refine ⟨(c.drop (i * 64)).take 64, by simp; omega, ?_⟩
  have hs : ∀ w, (sizeOf 39).run Try.prog w = .ok 64 w := fun _ => by rfl
  have ha : ∀ w, (isAgg 39).run Try.prog w = .ok true w := fun _ => by rfl
  simp only [part, Sem.run_bind, ha, hs, Result.andThen_ok, if_true, Sem.run_pure]
  rw [List.extract_toArray, List.extract_eq_take_drop, Nat.add_sub_cancel_left]
  simp only [ofK, List.map_drop, List.map_take]

end Go.Proofs.Yticcjaccpcnjhaa
