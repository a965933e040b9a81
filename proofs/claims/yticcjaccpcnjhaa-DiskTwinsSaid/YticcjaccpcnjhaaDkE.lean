/-
  asked, whatever comes of it; Write, walked. Conditions: at most 2^30 writes and acts.
-/
import Derived.Test.YticcjaccpcnjhaaDkD
namespace Go.Proofs.Yticcjaccpcnjhaa
open Go Go.RowKit

/-- the disk behind what was asked; x3: behind what is done then -/
def finD (x : Dk) (i : Int) (l : Bool) (x3 : Dk) : Dk := if askE x i l = 0 then { x3 with ops := x3.ops + 1 } else askD x i l

def AllP (w : World) (p : Nat) (S T : Nat → Prop) (x x3 : Dk) (i : Int) (l : Bool) (R : World → Prop) (e : Ending) (w' : World) : Prop :=
  e = .returned (.int .i64 (askE x i l)) ∧ DkAt w' p (Gr S w w') (finD x i l x3) ∧ Ch T w w' ∧ (askE x i l = 0 → R w') ∧ (askE x i l ≠ 0 → Ch (· = p) w w')

theorem AskP.all {w w' : World} {p : Nat} {S T : Nat → Prop} {x x3 : Dk} {i : Int} {l : Bool} {R : World → Prop} {e : Ending} {n : Int} (h : AskP w p S (askD x i l) n e w') (hE : askE x i l = n) (hn : n ≠ 0) (hS : T p) : AllP w p S T x x3 i l R e w' := by
  obtain ⟨h1, h2, h3⟩ := h
  refine ⟨by rw [hE]; exact h1, ?_, h3.mono (fun k hk => hk ▸ hS), fun h => absurd (hE ▸ h) hn, fun _ => h3⟩
  unfold finD
  rw [if_neg (by rw [hE]; exact hn)]
  exact h2.gr

theorem asked_all (p : Nat) (S T : Nat → Prop) (hT : ∀ k, S k → T k) (x x3 : Dk) (i : Int) (l : Bool) (gf : Nat) (lb : Array Value) (R : World → Prop) (w : World) (n : Nat) (h : DkAt w p S x) (hx : x.Ok n)
    (hcf : ∀ args w1, Sem.run Try.prog (callFunc gf args) w1 = .ok (.enter gf args) w1)
    (hdo : askE x i l = 0 → ∀ w1, DkAt w1 p S (askD x i l) → Ch (· = p) w w1 → Calls Try.prog gf lb w1 (DoP w1 p S T x3 R)) (hR : ∀ w2 w3, R w2 → Ch (· = p) w2 w3 → R w3) (ho1 : 0 ≤ x3.ops) (ho2 : x3.ops ≤ 4611686018427387904) :
    Calls Try.prog 41 #[.pointer (some ⟨p, 0, none⟩), .int .i64 i, .bool l, .func (.func gf) #[] lb] w (AllP w p S T x x3 i l R) := by
  by_cases ho : x.out = true
  · have e1 : askE x i l = 9 := by unfold askE; rw [if_pos ho]
    have e2 : askD x i l = x := by unfold askD; rw [if_pos ho]
    refine (asked_out p S x i l _ w h ho).mono fun e w' h1 => AskP.all (n := 9) ?_ e1 (by omega) (hT p h.sp)
    rw [e2]; exact h1
  · by_cases hi : i < 0 ∨ x.size ≤ i
    · have e1 : askE x i l = 2 := by unfold askE; rw [if_neg ho, if_pos hi]
      have e2 : askD x i l = x := by unfold askD; rw [if_neg ho, if_pos hi]
      refine (asked_arg p S x i l _ w h (by simpa using ho) hi).mono fun e w' h1 => AskP.all (n := 2) ?_ e1 (by omega) (hT p h.sp)
      rw [e2]; exact h1
    · by_cases hf : x.fails = 0
      · have e1 : askE x i l = 8 := by unfold askE; rw [if_neg ho, if_neg hi, if_pos hf]
        have e2 : askD x i l = { x with fails := -1 } := by unfold askD; rw [if_neg ho, if_neg hi, if_pos hf]
        refine (asked_io p S x i l _ w h (by simpa using ho) (by omega) (by omega) hf).mono fun e w' h1 => AskP.all (n := 8) ?_ e1 (by omega) (hT p h.sp)
        rw [e2]; exact h1
      · by_cases ha : l = true ∧ x.arms = 0
        · have e1 : askE x i l = 9 := by unfold askE; rw [if_neg ho, if_neg hi, if_neg hf, if_pos ha]
          have e2 : askD x i l = { x with fails := decF x.fails, arms := -1, out := true } := by unfold askD; rw [if_neg ho, if_neg hi, if_neg hf, if_pos ha]
          obtain ⟨rfl, ha⟩ := ha
          refine (asked_dies p S x i _ w h (by simpa using ho) (by omega) (by omega) hf hx.fails2 ha).mono fun e w' h1 => AskP.all (n := 9) ?_ e1 (by omega) (hT p h.sp)
          rw [e2]; exact h1
        · have e1 : askE x i l = 0 := by unfold askE; rw [if_neg ho, if_neg hi, if_neg hf, if_neg ha]
          refine (asked_does p S T hT x x3 i l gf lb R w h (by simpa using ho) (by omega) (by omega) hf hx.fails2 (fun h1 h2 => ha ⟨h1, h2⟩) hx.arms2 hcf (hdo e1) hR ho1 ho2).mono fun e w' ⟨h1, h2, h3, h4⟩ => ?_
          refine ⟨by rw [e1]; exact h1, ?_, h3, fun _ => h4, fun h => absurd e1 h⟩
          unfold finD
          rw [if_pos e1]
          exact h2

theorem askD_loose (x : Dk) (i : Int) (l : Bool) : (askD x i l).loose = x.loose := by unfold askD; repeat (first | rfl | split)
theorem askD_firm (x : Dk) (i : Int) (l : Bool) : (askD x i l).firm = x.firm := by unfold askD; repeat (first | rfl | split)
theorem askD_ops (x : Dk) (i : Int) (l : Bool) : (askD x i l).ops = x.ops := by unfold askD; repeat (first | rfl | split)
theorem askD_size (x : Dk) (i : Int) (l : Bool) : (askD x i l).size = x.size := by unfold askD; repeat (first | rfl | split)

/-- a disk behind a write -/
def writeD (x : Dk) (i : Int) (b : List Int) : Dk := finD x i true { askD x i true with loose := x.loose ++ [(i, b)] }

theorem run_callFunc44 (args : Array Value) (w : World) : Sem.run Try.prog (callFunc 44 args) w = .ok (.enter 44 args) w :=
  run_callFunc_body Try.func44 (by kernel_rfl) (by kernel_rfl) args w

def ActP (w : World) (p : Nat) (S : Nat → Prop) (x' : Dk) (v : Value) (e : Ending) (w' : World) : Prop := e = .returned v ∧ DkAt w' p (Gr S w w') x' ∧ Ch S w w'

theorem gr_mono {w w1 w2 : World} {S : Nat → Prop} (h : w.heap.size ≤ w1.heap.size) : ∀ k, Gr S w1 w2 k → Gr S w w2 k := fun k hk => by
  rcases hk with hk | hk
  · exact .inl hk
  · exact .inr ⟨by omega, hk.2⟩

theorem ActP.of {w w1 w' : World} {p : Nat} {S : Nat → Prop} {x' : Dk} {v : Value} (hc : Ch S w w1) (h : DkAt w' p (Gr S w1 w') x') (h2 : Ch S w1 w') : ActP w p S x' v (.returned v) w' :=
  ⟨rfl, h.mono (gr_mono hc.size) (fun k hk => by
    rcases hk with hk | hk
    · exact h.bd k (.inl hk)
    · exact hk.2), hc.trans h2⟩

/-- two boxes, and what grew behind them -/
theorem boxes2 {w w3 : World} {u v : Value} {s t : TypeId} (hb : Below ((w.alloc (.cells #[u] s)).alloc (.cells #[v] t)).heap.size ((w.alloc (.cells #[u] s)).alloc (.cells #[v] t)) w3) :
    w3.cell? ⟨w.heap.size, 0, none⟩ = some u ∧ w3.cell? ⟨w.heap.size + 1, 0, none⟩ = some v ∧ Below w.heap.size w w3 := by
  have h1 : Blk ((w.alloc (.cells #[u] s)).alloc (.cells #[v] t)) w.heap.size s [u] := (Blk.new w [u] s).alloc _
  have h2 := Blk.new (w.alloc (.cells #[u] s)) [v] t
  rw [World.size_alloc] at h2
  have h2' : Blk ((w.alloc (.cells #[u] s)).alloc (.cells #[v] t)) (w.heap.size + 1) t [v] := h2
  exact ⟨(h1.below hb h1.lt).cell 0, (h2'.below hb h2'.lt).cell 0, below_thn (((Below.refl _ w).alloc (Nat.le_refl _) _).alloc (by simp) _) hb (Nat.le_refl _)⟩

set_option maxRecDepth 100000 in
set_option maxHeartbeats 1000000 in
theorem write_any (p : Nat) (S : Nat → Prop) (x : Dk) (i : Int) (b : List Int) (n : Nat) (w : World) (h : DkAt w p S x) (hx : x.Ok n) (hn : n ≤ 1073741824) (hb : IsB b) :
    Calls Try.prog 21 #[.pointer (some ⟨p, 0, none⟩), .int .i64 i, .agg (ofK .u8 b).toArray] w (ActP w p S (writeD x i b) (.int .i64 (askE x i true))) := by
  have HA := Lib.hid (show ∀ w1 B0 B1 B2, DkAt w1 p S x → w1.cell? ⟨B0, 0, none⟩ = some (.pointer (some ⟨p, 0, none⟩)) → w1.cell? ⟨B1, 0, none⟩ = some (.int .i64 i) → Blk w1 B2 39 (ofK .u8 b) → ¬ S B0 → ¬ S B1 → ¬ S B2 →
      Calls Try.prog 41 #[.pointer (some ⟨p, 0, none⟩), .int .i64 i, .bool true, .func (.func 44) #[] #[.pointer (some ⟨B0, 0, none⟩), .pointer (some ⟨B1, 0, none⟩), .pointer (some ⟨B2, 0, none⟩)]] w1 (AllP w1 p S S x { askD x i true with loose := x.loose ++ [(i, b)] } i true (fun _ => True)) from
    fun w1 B0 B1 B2 hd c0 c1 c2 n0 n1 n2 => by
      refine asked_all p S S (fun _ h => h) x _ i true _ _ (fun _ => True) w1 n hd hx run_callFunc44 (fun _ w2 hd2 hc2 => ?_) (fun _ _ _ _ => trivial) ?_ ?_
      · have hl2 : (askD x i true).loose.length ≤ 1073741824 := by rw [askD_loose]; exact Nat.le_trans hx.len hn
        have hp : ∀ B, ¬ S B → B ≠ p := fun B hB e => hB (e ▸ hd.sp)
        obtain ⟨m, lv, al, fl, hd2⟩ := hd2
        have := writeDo_go p B0 B1 B2 S (askD x i true) i b w2 m lv al fl hd2 hl2 hb ((hc2.cell (p := ⟨B0, 0, none⟩) (block_of_cell c0) (hp _ n0)).trans c0) ((hc2.cell (p := ⟨B1, 0, none⟩) (block_of_cell c1) (hp _ n1)).trans c1) (c2.keep hc2 (hp _ n2)) n0 n1 n2
        rw [askD_loose] at this
        exact this
      · show 0 ≤ (askD x i true).ops
        rw [askD_ops]; exact hx.ops1
      · show (askD x i true).ops ≤ _
        rw [askD_ops]; have := hx.ops2; omega)
  have H := Lib.hid h
  clear h hx hn hb
  go_enter Try.func21, Try.ntmps21
  go_wp2_with (with_reducible refine wpList_box_blk _ rfl 39 (.tmp 2) rfl (ofK .u8 b) rfl ?_; intro w3 hb3 hbel3 hsz3; have hbx := boxes2 hbel3; simp only [World.size_alloc] at hb3; obtain ⟨k0, k1, hbw⟩ := hbx; have HB := Lib.hid (And.intro hb3 (And.intro k0 (And.intro k1 hbw))); clear hbel3 hsz3 hb3 hbw)
  have hnS : ∀ k, w.heap.size ≤ k → ¬ S k := fun k hk hs => by have := H.out.bd k hs; omega
  have hc3 : Ch S w w3 := Ch.of_below HB.out.2.2.2 (Nat.le_refl _)
  have hd3 : DkAt w3 p S x := H.out.keep (Ch.of_below (S := fun _ => False) HB.out.2.2.2 (Nat.le_refl _)) (fun _ _ h => h)
  refine (HA.out w3 _ _ _ hd3 HB.out.2.1 HB.out.2.2.1 HB.out.1 (hnS _ (by omega)) (hnS _ (by omega)) (hnS _ (by omega))).mono ?_
  rintro e w4 ⟨rfl, h1, h2, _⟩
  have HF := Lib.hid (And.intro h1 h2)
  have HC := Lib.hid hc3
  clear h1 h2 hc3 hd3 hnS
  go_wp2_with fail
  go_ret
  exact ActP.of HC.out HF.out.1 HF.out.2

end Go.Proofs.Yticcjaccpcnjhaa
