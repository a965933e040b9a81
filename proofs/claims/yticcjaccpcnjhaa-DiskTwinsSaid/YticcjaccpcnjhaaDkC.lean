/-
  What is asked of a disk, walked. Conditions: none.
-/
import Derived.Test.YticcjaccpcnjhaaDkB
namespace Go.Proofs.Yticcjaccpcnjhaa
open Go Go.RowKit

def decF (n : Int) : Int := if n = 0 then -1 else if 0 < n then n - 1 else n

theorem DkAt'.near {w : World} {p m : Nat} {lv : Value} {al fl : Int} {S : Nat → Prop} {x : Dk} (h : DkAt' w p m lv al fl S x) (hf : 0 < x.fails) :
    DkAt' (w.setCell ⟨p, 0 + 6 + 1, none⟩ (.int .i64 (fl - 1))) p m lv al (fl - 1) S { x with fails := x.fails - 1 } ∧ Ch (· = p) w (w.setCell ⟨p, 0 + 6 + 1, none⟩ (.int .i64 (fl - 1))) := by
  have hc : Ch (· = p) w (w.setCell ⟨p, 0 + 6 + 1, none⟩ (.int .i64 (fl - 1))) := Ch.set w ⟨p, 0 + 6 + 1, none⟩ _
  have e : fl = x.fails := h.flE (by omega)
  refine ⟨⟨?_, h.alE, fun _ => by simp; omega, h.firm.keep hc (fun e => h.pm e.symm), own_ch h.row hc (fun k hk e => (h.sl k hk).2.1 e), h.sp, h.sm, h.sl, h.pm, fun k hk => Nat.lt_of_lt_of_le (h.bd k hk) hc.size⟩, hc⟩
  have hd : decide (0 ≤ x.fails - 1) = decide (0 ≤ x.fails) := by rw [decide_eq_true (by omega), decide_eq_true (by omega)]
  unfold DkB
  rw [hd]
  exact blk_set h.blk 7 _ rfl

theorem DkAt'.nearA {w : World} {p m : Nat} {lv : Value} {al fl : Int} {S : Nat → Prop} {x : Dk} (h : DkAt' w p m lv al fl S x) (hf : 0 < x.arms) :
    DkAt' (w.setCell ⟨p, 0 + 4 + 1, none⟩ (.int .i64 (al - 1))) p m lv (al - 1) fl S { x with arms := x.arms - 1 } ∧ Ch (· = p) w (w.setCell ⟨p, 0 + 4 + 1, none⟩ (.int .i64 (al - 1))) := by
  have hc : Ch (· = p) w (w.setCell ⟨p, 0 + 4 + 1, none⟩ (.int .i64 (al - 1))) := Ch.set w ⟨p, 0 + 4 + 1, none⟩ _
  have e : al = x.arms := h.alE (by omega)
  refine ⟨⟨?_, fun _ => by simp; omega, h.flE, h.firm.keep hc (fun e => h.pm e.symm), own_ch h.row hc (fun k hk e => (h.sl k hk).2.1 e), h.sp, h.sm, h.sl, h.pm, fun k hk => Nat.lt_of_lt_of_le (h.bd k hk) hc.size⟩, hc⟩
  have hd : decide (0 ≤ x.arms - 1) = decide (0 ≤ x.arms) := by rw [decide_eq_true (by omega), decide_eq_true (by omega)]
  unfold DkB
  rw [hd]
  exact blk_set h.blk 5 _ rfl

/-- a count is met, or nearer by one -/
theorem met_fails (p : Nat) (S : Nat → Prop) (x : Dk) (b : Bool) (w : World) (h : DkAt w p S x) (hb : decide (x.fails = 0) = b) (hx : x.fails ≤ 9223372036854775807) :
    Calls Try.prog 50 #[.pointer (some ⟨p, 0 + 6, none⟩)] w (fun e w' => e = .returned (.bool b) ∧ DkAt w' p S { x with fails := decF x.fails } ∧ Ch (· = p) w w') := by
  obtain ⟨m, lv, al, fl, h⟩ := h
  have hc := h.blk.cs.fails
  by_cases h0 : x.fails = 0
  · obtain rfl : b = true := by rw [← hb]; simpa using h0
    have e : fl = 0 := (h.flE (by omega)).trans h0
    subst e
    rw [decide_eq_true (show 0 ≤ x.fails by omega)] at hc
    have hR := h.fail false 0 (-1) rfl (by simp)
    refine (met_now p (0 + 6) w hc).mono ?_
    rintro e w' ⟨rfl, rfl⟩
    have e2 : decF x.fails = -1 := by unfold decF; rw [if_pos h0]
    rw [e2]
    exact ⟨rfl, ⟨_, _, _, _, hR.1⟩, hR.2⟩
  · obtain rfl : b = false := by rw [← hb]; simpa using h0
    by_cases h1 : 0 < x.fails
    · have e : fl = x.fails := h.flE (by omega)
      have hR := h.near h1
      rw [decide_eq_true (show 0 ≤ x.fails by omega)] at hc
      refine (met_near p (0 + 6) fl w (by omega) (by omega) hc).mono ?_
      rintro e w' ⟨rfl, rfl⟩
      have e2 : decF x.fails = x.fails - 1 := by unfold decF; rw [if_neg h0, if_pos h1]
      rw [e2]
      exact ⟨rfl, ⟨_, _, _, _, hR.1⟩, hR.2⟩
    · rw [decide_eq_false (show ¬ 0 ≤ x.fails by omega)] at hc
      refine (met_off p (0 + 6) _ w hc).mono ?_
      rintro e w' ⟨rfl, rfl⟩
      have e2 : decF x.fails = x.fails := by unfold decF; rw [if_neg h0, if_neg h1]
      rw [e2]
      exact ⟨rfl, ⟨_, _, _, _, h⟩, Ch.refl _ _⟩

theorem met_arms (p : Nat) (S : Nat → Prop) (x : Dk) (b : Bool) (w : World) (h : DkAt w p S x) (hb : decide (x.arms = 0) = b) (hx : x.arms ≤ 9223372036854775807) :
    Calls Try.prog 50 #[.pointer (some ⟨p, 0 + 4, none⟩)] w (fun e w' => e = .returned (.bool b) ∧ DkAt w' p S { x with arms := decF x.arms } ∧ Ch (· = p) w w') := by
  obtain ⟨m, lv, al, fl, h⟩ := h
  have hc := h.blk.cs.arms
  by_cases h0 : x.arms = 0
  · obtain rfl : b = true := by rw [← hb]; simpa using h0
    have e : al = 0 := (h.alE (by omega)).trans h0
    subst e
    rw [decide_eq_true (show 0 ≤ x.arms by omega)] at hc
    have hR := h.arm false 0 (-1) rfl (by simp)
    refine (met_now p (0 + 4) w hc).mono ?_
    rintro e w' ⟨rfl, rfl⟩
    have e2 : decF x.arms = -1 := by unfold decF; rw [if_pos h0]
    rw [e2]
    exact ⟨rfl, ⟨_, _, _, _, hR.1⟩, hR.2⟩
  · obtain rfl : b = false := by rw [← hb]; simpa using h0
    by_cases h1 : 0 < x.arms
    · have e : al = x.arms := h.alE (by omega)
      have hR := h.nearA h1
      rw [decide_eq_true (show 0 ≤ x.arms by omega)] at hc
      refine (met_near p (0 + 4) al w (by omega) (by omega) hc).mono ?_
      rintro e w' ⟨rfl, rfl⟩
      have e2 : decF x.arms = x.arms - 1 := by unfold decF; rw [if_neg h0, if_pos h1]
      rw [e2]
      exact ⟨rfl, ⟨_, _, _, _, hR.1⟩, hR.2⟩
    · rw [decide_eq_false (show ¬ 0 ≤ x.arms by omega)] at hc
      refine (met_off p (0 + 4) _ w hc).mono ?_
      rintro e w' ⟨rfl, rfl⟩
      have e2 : decF x.arms = x.arms := by unfold decF; rw [if_neg h0, if_neg h1]
      rw [e2]
      exact ⟨rfl, ⟨_, _, _, _, h⟩, Ch.refl _ _⟩

def askE (x : Dk) (i : Int) (l : Bool) : Int := if x.out = true then 9 else if i < 0 ∨ x.size ≤ i then 2 else if x.fails = 0 then 8 else if l = true ∧ x.arms = 0 then 9 else 0
def askD (x : Dk) (i : Int) (l : Bool) : Dk :=
  if x.out = true then x else if i < 0 ∨ x.size ≤ i then x else if x.fails = 0 then { x with fails := -1 } else
  if l = true ∧ x.arms = 0 then { x with fails := decF x.fails, arms := -1, out := true } else { x with fails := decF x.fails, arms := if l = true then decF x.arms else x.arms }

theorem DkAt'.outs {w : World} {p m : Nat} {lv : Value} {al fl : Int} {S : Nat → Prop} {x : Dk} (h : DkAt' w p m lv al fl S x) (b : Bool) :
    DkAt' (w.setCell ⟨p, 0 + 3, none⟩ (.bool b)) p m lv al fl S { x with out := b } ∧ Ch (· = p) w (w.setCell ⟨p, 0 + 3, none⟩ (.bool b)) := by
  have hc : Ch (· = p) w (w.setCell ⟨p, 0 + 3, none⟩ (.bool b)) := Ch.set w ⟨p, 0 + 3, none⟩ _
  refine ⟨⟨?_, h.alE, h.flE, h.firm.keep hc (fun e => h.pm e.symm), own_ch h.row hc (fun k hk e => (h.sl k hk).2.1 e), h.sp, h.sm, h.sl, h.pm, fun k hk => Nat.lt_of_lt_of_le (h.bd k hk) hc.size⟩, hc⟩
  exact blk_set h.blk 3 _ rfl

theorem DkAt'.opss {w : World} {p m : Nat} {lv : Value} {al fl : Int} {S : Nat → Prop} {x : Dk} (h : DkAt' w p m lv al fl S x) (n : Int) :
    DkAt' (w.setCell ⟨p, 0 + 8, none⟩ (.int .i64 n)) p m lv al fl S { x with ops := n } ∧ Ch (· = p) w (w.setCell ⟨p, 0 + 8, none⟩ (.int .i64 n)) := by
  have hc : Ch (· = p) w (w.setCell ⟨p, 0 + 8, none⟩ (.int .i64 n)) := Ch.set w ⟨p, 0 + 8, none⟩ _
  refine ⟨⟨?_, h.alE, h.flE, h.firm.keep hc (fun e => h.pm e.symm), own_ch h.row hc (fun k hk e => (h.sl k hk).2.1 e), h.sp, h.sm, h.sl, h.pm, fun k hk => Nat.lt_of_lt_of_le (h.bd k hk) hc.size⟩, hc⟩
  exact blk_set h.blk 8 _ rfl

/-- a disk's cells, for a walk -/
theorem DkAt.cs {w : World} {p : Nat} {S : Nat → Prop} {x : Dk} (h : DkAt w p S x) : ∃ m lv al fl, Cs w p m lv al fl x ∧ DkAt' w p m lv al fl S x := by
  obtain ⟨m, lv, al, fl, h⟩ := h
  exact ⟨m, lv, al, fl, h.blk.cs, h⟩

def AskP (w : World) (p : Nat) (S : Nat → Prop) (x' : Dk) (n : Int) (e : Ending) (w' : World) : Prop := e = .returned (.int .i64 n) ∧ DkAt w' p S x' ∧ Ch (· = p) w w'

theorem asked_nil (i : Int) (l : Bool) (f : Value) (w : World) : Calls Try.prog 41 #[.pointer none, .int .i64 i, .bool l, f] w (fun e w' => e = .returned (.int .i64 1) ∧ w = w') := by
  go_enter Try.func41, Try.ntmps41
  go_wp2
  go_ret
  exact ⟨rfl, rfl⟩

set_option maxHeartbeats 1000000 in
theorem asked_out (p : Nat) (S : Nat → Prop) (x : Dk) (i : Int) (l : Bool) (f : Value) (w : World) (h : DkAt w p S x) (ho : x.out = true) :
    Calls Try.prog 41 #[.pointer (some ⟨p, 0, none⟩), .int .i64 i, .bool l, f] w (AskP w p S x 9) := by
  obtain ⟨m, lv, al, fl, hc, -⟩ := h.cs
  have c3 := hc.c3
  rw [ho] at c3
  have H := Lib.hid h
  clear h hc ho
  go_enter Try.func41, Try.ntmps41
  go_wp2_with fail
  go_ret
  exact ⟨rfl, H.out, Ch.refl _ _⟩

set_option maxHeartbeats 1000000 in
theorem asked_arg (p : Nat) (S : Nat → Prop) (x : Dk) (i : Int) (l : Bool) (f : Value) (w : World) (h : DkAt w p S x) (ho : x.out = false) (hi : i < 0 ∨ x.size ≤ i) :
    Calls Try.prog 41 #[.pointer (some ⟨p, 0, none⟩), .int .i64 i, .bool l, f] w (AskP w p S x 2) := by
  obtain ⟨m, lv, al, fl, hc, -⟩ := h.cs
  have c0 := hc.c0
  have c3 := hc.c3
  rw [ho] at c3
  have H := Lib.hid h
  by_cases h0 : i < 0
  · clear h hc ho hi
    go_enter Try.func41, Try.ntmps41
    go_wp2_with fail
    go_ret
    exact ⟨rfl, H.out, Ch.refl _ _⟩
  · have h1 : x.size ≤ i := by omega
    generalize x.size = s at *
    clear h hc ho hi
    go_enter Try.func41, Try.ntmps41
    go_wp2_with fail
    go_ret
    exact ⟨rfl, H.out, Ch.refl _ _⟩

set_option maxHeartbeats 1000000 in
theorem asked_io (p : Nat) (S : Nat → Prop) (x : Dk) (i : Int) (l : Bool) (f : Value) (w : World) (h : DkAt w p S x) (ho : x.out = false) (h0 : 0 ≤ i) (h1 : i < x.size) (hf : x.fails = 0) :
    Calls Try.prog 41 #[.pointer (some ⟨p, 0, none⟩), .int .i64 i, .bool l, f] w (AskP w p S { x with fails := -1 } 8) := by
  obtain ⟨m, lv, al, fl, hc, -⟩ := h.cs
  have c0 := hc.c0
  have c3 := hc.c3
  rw [ho] at c3
  have hm := met_fails p S x true w h (by simp [hf]) (by omega)
  have e : decF x.fails = -1 := by rw [hf]; rfl
  rw [e] at hm
  have HM := Lib.hid hm
  obtain ⟨s, hs⟩ : ∃ s, s = x.size := ⟨_, rfl⟩
  rw [← hs] at c0 h1
  clear h hc ho hm hf e hs
  go_enter Try.func41, Try.ntmps41
  go_wp2_with fail
  refine HM.out.mono ?_
  rintro e w1 ⟨rfl, h1, hc1⟩
  have H1 := Lib.hid (And.intro h1 hc1)
  clear h1 hc1
  go_wp2_with fail
  go_ret
  exact ⟨rfl, H1.out⟩

set_option maxHeartbeats 1000000 in
theorem asked_dies (p : Nat) (S : Nat → Prop) (x : Dk) (i : Int) (f : Value) (w : World) (h : DkAt w p S x) (ho : x.out = false) (h0 : 0 ≤ i) (h1 : i < x.size) (hf : x.fails ≠ 0) (hfx : x.fails ≤ 9223372036854775807) (ha : x.arms = 0) :
    Calls Try.prog 41 #[.pointer (some ⟨p, 0, none⟩), .int .i64 i, .bool true, f] w (AskP w p S { x with fails := decF x.fails, arms := -1, out := true } 9) := by
  obtain ⟨m, lv, al, fl, hc, -⟩ := h.cs
  have c0 := hc.c0
  have c3 := hc.c3
  rw [ho] at c3
  have HM := Lib.hid (met_fails p S x false w h (by simp [hf]) hfx)
  have HA := Lib.hid (fun w1 (h1 : DkAt w1 p S { x with fails := decF x.fails }) => met_arms p S _ true w1 h1 (by simp [ha]) (by show x.arms ≤ _; omega))
  have HE := Lib.hid (show decF x.arms = -1 by rw [ha]; rfl)
  obtain ⟨s, hs⟩ : ∃ s, s = x.size := ⟨_, rfl⟩
  rw [← hs] at c0 h1
  clear h hc ho hf hfx ha hs
  go_enter Try.func41, Try.ntmps41
  go_wp2_with fail
  refine HM.out.mono ?_
  rintro e w1 ⟨rfl, g1, hc1⟩
  have H1 := Lib.hid (And.intro g1 hc1)
  clear g1 hc1
  go_wp2_with fail
  refine (HA.out _ H1.out.1).mono ?_
  rintro e w2 ⟨rfl, g2, hc2⟩
  obtain ⟨m2, lv2, al2, fl2, k2, k2'⟩ := g2.cs
  have d3 := k2.c3
  have df := k2.f3
  have hR := k2'.outs true
  have H2 := Lib.hid (And.intro hR (H1.out.2.trans hc2))
  clear g2 hc2 k2 k2' hR
  go_wp2_with fail
  go_ret
  refine ⟨rfl, ?_, H2.out.2.trans H2.out.1.2⟩
  have := H2.out.1.1
  rw [HE.out] at this
  exact ⟨_, _, _, _, this⟩

def AskDoP (w : World) (p : Nat) (S T : Nat → Prop) (x3 : Dk) (R : World → Prop) (e : Ending) (w' : World) : Prop :=
  e = .returned (.int .i64 0) ∧ DkAt w' p (Gr S w w') { x3 with ops := x3.ops + 1 } ∧ Ch T w w' ∧ R w'

def DoP (w1 : World) (p : Nat) (S T : Nat → Prop) (x3 : Dk) (R : World → Prop) (e : Ending) (w2 : World) : Prop :=
  e = .returned (.tuple #[]) ∧ DkAt w2 p (Gr S w1 w2) x3 ∧ Ch T w1 w2 ∧ R w2

theorem askDo_end {w w1 w2 w3 : World} {p : Nat} {S T : Nat → Prop} {x3 x4 : Dk} {R : World → Prop} (hS : T p) (h1 : Ch (· = p) w w1) (h2 : Ch T w1 w2) (h3 : Ch (· = p) w2 w3) (hd : DkAt w3 p (Gr S w1 w2) x4) (hx : x4 = { x3 with ops := x3.ops + 1 }) (hR : R w3) (hs : w3.heap.size = w2.heap.size) : AskDoP w p S T x3 R (.returned (.int .i64 0)) w3 := by
  subst hx
  have key : ∀ k, Gr S w1 w2 k → Gr S w w3 k := by
    rintro k (hk | ⟨k1, k2⟩)
    · exact .inl hk
    · have := h1.size
      exact .inr ⟨by omega, by omega⟩
  refine ⟨rfl, hd.mono key ?_, ?_, hR⟩
  · rintro k (hk | ⟨k1, k2⟩)
    · exact hd.bd k (.inl hk)
    · exact k2
  · exact ((h1.mono (T := T) (fun i hi => hi ▸ hS)).trans h2).trans (h3.mono (fun i hi => hi ▸ hS))

set_option maxHeartbeats 1000000 in
theorem asked_does (p : Nat) (S T : Nat → Prop) (hT : ∀ k, S k → T k) (x x3 : Dk) (i : Int) (l : Bool) (gf : Nat) (lb : Array Value) (R : World → Prop) (w : World) (h : DkAt w p S x) (ho : x.out = false) (h0 : 0 ≤ i) (h1 : i < x.size) (hf : x.fails ≠ 0) (hfx : x.fails ≤ 9223372036854775807) (ha : l = true → x.arms ≠ 0) (hax : x.arms ≤ 9223372036854775807)
    (hcf : ∀ args w1, Sem.run Try.prog (callFunc gf args) w1 = .ok (.enter gf args) w1)
    (hdo : ∀ w1, DkAt w1 p S (askD x i l) → Ch (· = p) w w1 → Calls Try.prog gf lb w1 (DoP w1 p S T x3 R)) (hR : ∀ w2 w3, R w2 → Ch (· = p) w2 w3 → R w3) (ho1 : 0 ≤ x3.ops) (ho2 : x3.ops ≤ 4611686018427387904) :
    Calls Try.prog 41 #[.pointer (some ⟨p, 0, none⟩), .int .i64 i, .bool l, .func (.func gf) #[] lb] w (AskDoP w p S T x3 R) := by
  obtain ⟨m, lv, al, fl, hc, -⟩ := h.cs
  have c0 := hc.c0
  have c3 := hc.c3
  rw [ho] at c3
  have HM := Lib.hid (met_fails p S x false w h (by simp [hf]) hfx)
  have hx2 : askD x i l = { x with fails := decF x.fails, arms := if l = true then decF x.arms else x.arms } := by
    unfold askD
    rw [if_neg (by simp [ho]), if_neg (by omega), if_neg hf, if_neg (by rintro ⟨a, b⟩; exact ha a b)]
  rw [hx2] at hdo
  have HD := Lib.hid (And.intro hdo (And.intro hR (hT p h.sp)))
  obtain ⟨s, hs⟩ : ∃ s, s = x.size := ⟨_, rfl⟩
  rw [← hs] at c0 h1
  cases l with
  | true =>
    have HA := Lib.hid (fun w1 (h1 : DkAt w1 p S { x with fails := decF x.fails }) => met_arms p S _ false w1 h1 (by simp [ha rfl]) (by show x.arms ≤ _; omega))
    clear h hc ho hf hfx ha hax hs hdo hR hx2 hT
    go_enter Try.func41, Try.ntmps41
    go_wp2_with fail
    refine HM.out.mono ?_
    rintro e w1 ⟨rfl, g1, hc1⟩
    have H1 := Lib.hid (And.intro g1 hc1)
    clear g1 hc1
    go_wp2_with fail
    refine (HA.out _ H1.out.1).mono ?_
    rintro e w2 ⟨rfl, g2, hc2⟩
    have H2 := Lib.hid (And.intro g2 (H1.out.2.trans hc2))
    clear g2 hc2 H1 HA HM
    go_wp2_with fail
    refine (HD.out.1 _ H2.out.1 H2.out.2).mono ?_
    rintro e w3 ⟨rfl, g3, hc3, hR3⟩
    obtain ⟨m3, lv3, al3, fl3, k3, k3'⟩ := g3.cs
    have d8 := k3.c8
    have df := k3.f8
    have hR8 := k3'.opss (x3.ops + 1)
    have H3 := Lib.hid (And.intro hR8 (And.intro hc3 hR3))
    clear g3 hc3 k3 k3' hR8 hR3
    generalize hops : x3.ops = n at *
    have HO := Lib.hid hops
    clear hops
    go_wp2_with fail
    go_ret
    exact askDo_end HD.out.2.2 H2.out.2 H3.out.2.1 H3.out.1.2 ⟨_, _, _, _, H3.out.1.1⟩ (by rw [HO.out]) (HD.out.2.1 _ _ H3.out.2.2 H3.out.1.2) (by simp)
  | false =>
    clear h hc ho hf hfx ha hax hs hdo hR hx2 hT
    go_enter Try.func41, Try.ntmps41
    go_wp2_with fail
    refine HM.out.mono ?_
    rintro e w2 ⟨rfl, g2, hc2⟩
    have H2 := Lib.hid (And.intro g2 hc2)
    clear g2 hc2 HM
    go_wp2_with fail
    refine (HD.out.1 _ H2.out.1 H2.out.2).mono ?_
    rintro e w3 ⟨rfl, g3, hc3, hR3⟩
    obtain ⟨m3, lv3, al3, fl3, k3, k3'⟩ := g3.cs
    have d8 := k3.c8
    have df := k3.f8
    have hR8 := k3'.opss (x3.ops + 1)
    have H3 := Lib.hid (And.intro hR8 (And.intro hc3 hR3))
    clear g3 hc3 k3 k3' hR8 hR3
    generalize hops : x3.ops = n at *
    have HO := Lib.hid hops
    clear hops
    go_wp2_with fail
    go_ret
    exact askDo_end HD.out.2.2 H2.out.2 H3.out.2.1 H3.out.1.2 ⟨_, _, _, _, H3.out.1.1⟩ (by rw [HO.out]) (HD.out.2.1 _ _ H3.out.2.2 H3.out.1.2) (by simp)

end Go.Proofs.Yticcjaccpcnjhaa
