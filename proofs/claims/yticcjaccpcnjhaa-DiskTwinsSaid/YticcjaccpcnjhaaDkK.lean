/-
  Read, walked. Conditions: at most 2^30 writes and acts.
-/
import Derived.Test.YticcjaccpcnjhaaDkJ
import Derived.Deep.QuietTactic
namespace Go.Proofs.Yticcjaccpcnjhaa
open Go Go.RowKit

theorem ch_less {S : Nat → Prop} {w w' : World} {b : Nat} (h : Ch (fun k => S k ∨ k = b) w w') (hb : w.heap.size ≤ b) : Ch S w w' :=
  ⟨h.os, h.tape, h.output, h.size, fun k hk hs => h.block k hk (by rintro (h | h); exact hs h; omega)⟩

set_option maxRecDepth 100000 in
set_option maxHeartbeats 2000000 in
theorem readDo (p B0 B1 B2 : Nat) (S : Nat → Prop) (x : Dk) (i : Int) (n : Nat) (w : World) (h : DkAt w p S x) (hx : x.Ok n) (hn : n ≤ 1073741824)
    (c0 : w.cell? ⟨B0, 0, none⟩ = some (.pointer (some ⟨p, 0, none⟩))) (c1 : w.cell? ⟨B1, 0, none⟩ = some (.int .i64 i)) (c2 : Blk w B2 39 (ofK .u8 zer)) (n2 : ¬ S B2) :
    Calls Try.prog 42 #[.pointer (some ⟨B0, 0, none⟩), .pointer (some ⟨B1, 0, none⟩), .pointer (some ⟨B2, 0, none⟩)] w (DoP w p S (fun k => S k ∨ k = B2) x (fun w' => Blk w' B2 39 (ofK .u8 (x.holds i)))) := by
  have HB := hx.holdsB i
  have H := Lib.hid (And.intro h (And.intro hx (And.intro hn (And.intro n2 (And.intro HB c2)))))
  have HC := Lib.hid (show ∀ q, Calls Try.prog 43 #[.pointer (some ⟨p, 0, none⟩), .int .i64 i] (grew w q) (HoldP (grew w q) (x.holds i)) from fun q =>
    holds_any p S x i n _ (h.keep (Ch.of_below (S := fun _ => False) (below_grew w q) (Nat.le_refl _)) (fun _ _ h => h)) hx hn)
  have g0 := fun q => cell_grew c0 q
  have g1 := fun q => cell_grew c1 q
  clear h hx hn n2 HB c2
  go_enter Try.func42, Try.ntmps42
  go_wp2_with fail
  refine wp_region_grew_tail 5 (by kernel_rfl) (by kernel_rfl) ?_
  simp only [List.take_succ_cons, List.take_zero, List.drop_succ_cons, List.drop_zero]
  repeat (first | go_big_quiet_skip | (go_big_quiet_want; go_big_quiet_op; (first | go_big_quiet_on | (apply Exists.intro; refine ⟨fun _ => ?_, ?_⟩; (focus (go_at_call 43; exact calls_grew (HC.out _))); go_big_quiet_on))))
  refine wpQuiet_nil ?_
  intro w5 hw5
  obtain ⟨q, rfl⟩ := hw5
  have hb5 := below_grew w q
  refine wpList_store_blk _ rfl 39 _ _ rfl B2 39 (ofK .u8 zer) (ofK .u8 (x.holds i)) (H.out.2.2.2.2.2.below hb5 H.out.2.2.2.2.2.lt) rfl rfl (len_B H.out.2.2.2.2.1 isB_zer) (infoB H.out.2.2.2.2.1) (one_ofK _ _) ?_
  intro w6 hb6 hc6 hs6
  have HF := Lib.hid (And.intro hb6 (And.intro hc6 hb5))
  clear hb6 hc6 hb5 hs6
  go_wp2_with fail
  go_end0
  refine ⟨rfl, ?_, ?_, HF.out.1⟩
  · exact ((H.out.1.keep (Ch.of_below (S := fun _ => False) HF.out.2.2 (Nat.le_refl _)) (fun _ _ h => h)).keep HF.out.2.1 (fun k hk e => H.out.2.2.2.1 ((show k = B2 from e) ▸ hk))).gr
  · exact (Ch.of_below HF.out.2.2 (Nat.le_refl _)).trans (HF.out.2.1.mono (fun k hk => .inr hk))

/-- a disk behind a read -/
def readD (x : Dk) (i : Int) : Dk := finD x i false (askD x i false)
def readB (x : Dk) (i : Int) : List Int := if askE x i false = 0 then x.holds i else zer

theorem run_callFunc42 (args : Array Value) (w : World) : Sem.run Try.prog (callFunc 42 args) w = .ok (.enter 42 args) w :=
  run_callFunc_body Try.func42 (by kernel_rfl) (by kernel_rfl) args w

theorem isB_read {x : Dk} {n : Nat} (hx : x.Ok n) (i : Int) : IsB (readB x i) := by unfold readB; split; exact hx.holdsB i; exact isB_zer

theorem askD_holds (x : Dk) (i : Int) (l : Bool) (j : Int) : (askD x i l).holds j = x.holds j := by unfold Dk.holds; rw [askD_loose, askD_firm]

def ReadP (w : World) (p : Nat) (S : Nat → Prop) (x' : Dk) (b : List Int) (n : Int) (e : Ending) (w' : World) : Prop := e = .returned (.tuple #[.agg (ofK .u8 b).toArray, .int .i64 n]) ∧ DkAt w' p (Gr S w w') x' ∧ Ch S w w'

set_option maxRecDepth 100000 in
set_option maxHeartbeats 1000000 in
theorem read_any (p : Nat) (S : Nat → Prop) (x : Dk) (i : Int) (n : Nat) (w : World) (h : DkAt w p S x) (hx : x.Ok n) (hn : n ≤ 1073741824) :
    Calls Try.prog 17 #[.pointer (some ⟨p, 0, none⟩), .int .i64 i] w (ReadP w p S (readD x i) (readB x i) (askE x i false)) := by
  have HA := Lib.hid (show ∀ w1 B0 B1 B2, DkAt w1 p S x → w1.cell? ⟨B0, 0, none⟩ = some (.pointer (some ⟨p, 0, none⟩)) → w1.cell? ⟨B1, 0, none⟩ = some (.int .i64 i) → Blk w1 B2 39 (ofK .u8 zer) → ¬ S B0 → ¬ S B1 → ¬ S B2 →
      Calls Try.prog 41 #[.pointer (some ⟨p, 0, none⟩), .int .i64 i, .bool false, .func (.func 42) #[] #[.pointer (some ⟨B0, 0, none⟩), .pointer (some ⟨B1, 0, none⟩), .pointer (some ⟨B2, 0, none⟩)]] w1 (AllP w1 p S (fun k => S k ∨ k = B2) x (askD x i false) i false (fun w' => Blk w' B2 39 (ofK .u8 (x.holds i)))) from
    fun w1 B0 B1 B2 hd c0 c1 c2 n0 n1 n2 => by
      have hp : ∀ B, ¬ S B → B ≠ p := fun B hB e => hB (e ▸ hd.sp)
      refine asked_all p S _ (fun _ h => .inl h) x _ i false _ _ (fun w' => Blk w' B2 39 (ofK .u8 (x.holds i))) w1 n hd hx run_callFunc42 (fun _ w2 hd2 hc2 => ?_) (fun w2 w3 hb hc => hb.keep hc (hp _ n2)) ?_ ?_
      · have := readDo p B0 B1 B2 S (askD x i false) i n w2 hd2 (askD_ok hx i false) hn ((hc2.cell (p := ⟨B0, 0, none⟩) (block_of_cell c0) (hp _ n0)).trans c0) ((hc2.cell (p := ⟨B1, 0, none⟩) (block_of_cell c1) (hp _ n1)).trans c1) (c2.keep hc2 (hp _ n2)) n2
        rw [askD_holds] at this
        exact this
      · rw [askD_ops]; exact hx.ops1
      · rw [askD_ops]; have := hx.ops2; omega)
  have H := Lib.hid (And.intro h (And.intro hx trivial))
  clear h hx hn
  go_enter Try.func17, Try.ntmps17
  go_wp2_with ((with_reducible refine wpList_alloc_blk _ rfl 39 rfl (ofK .u8 zer) Try.zeroBl ?_); intro w3 hb3 hbel3 hsz3; have hbx := boxes2 hbel3; simp only [World.size_alloc] at hb3; obtain ⟨k0, k1, hbw⟩ := hbx; have HB := Lib.hid (And.intro hb3 (And.intro k0 (And.intro k1 hbw))); clear hbel3 hsz3 hb3 hbw)
  have hnS : ∀ k, w.heap.size ≤ k → ¬ S k := fun k hk hs => by have := H.out.1.bd k hs; omega
  have hd3 : DkAt w3 p S x := H.out.1.keep (Ch.of_below (S := fun _ => False) HB.out.2.2.2 (Nat.le_refl _)) (fun _ _ h => h)
  refine (HA.out w3 _ _ _ hd3 HB.out.2.1 HB.out.2.2.1 HB.out.1 (hnS _ (by omega)) (hnS _ (by omega)) (hnS _ (by omega))).mono ?_
  rintro e w4 ⟨rfl, h1, h2, h3, h4⟩
  have hb4 : Blk w4 (w.heap.size + 1 + 1) 39 (ofK .u8 (readB x i)) := by
    unfold readB
    by_cases he : askE x i false = 0
    · rw [if_pos he]; exact h3 he
    · rw [if_neg he]; exact HB.out.1.keep (h4 he) (fun e => hnS _ (by omega) ((show w.heap.size + 1 + 1 = p from e) ▸ H.out.1.sp))
  have HF := Lib.hid (And.intro h1 (And.intro h2 (And.intro hb4 (And.intro hnS (isB_read H.out.2.1 i)))))
  have HR := Lib.hid (rangeW_blk hb4)
  have HI := Lib.hid (infoB (isB_read H.out.2.1 i))
  clear h1 h2 h3 h4 hb4 hd3 hnS k0 k1
  go_wp2_with (first
    | (with_reducible refine wpList_load_any rfl 39 (.tmp 4) rfl (w.heap.size + 1 + 1) 0 rfl (ofK .u8 (readB x i)) _ HR.out Try.underlying39 rfl HI.out ?_)
    | ((with_reducible refine wpList_store_blk _ rfl 39 (.tmp 4) (.tmp 10) rfl (w.heap.size + 1 + 1) 39 (ofK .u8 (readB x i)) (ofK .u8 (readB x i)) HF.out.2.2.1 rfl rfl rfl HI.out (one_ofK _ _) ?_); intro w5 hb5 hc5 hs5; have HB5 := Lib.hid (And.intro hb5 (And.intro hc5 hs5)); clear hb5 hc5 hs5))
  refine bodyPost_ret (results_cellTmp Try.results17 _ _ (w.heap.size + 1 + 1) _ _ rfl HB5.out.1 _ Try.underlying39 rfl HI.out _ rfl) rfl ⟨rfl, ?_, ?_⟩
  · have hz3 : w.heap.size + 1 + 1 < w3.heap.size := HB.out.1.lt
    have hk := HF.out.1.keep HB5.out.2.1 (fun k hk e => by
      have e' : k = w.heap.size + 1 + 1 := e
      rcases hk with hk | hk
      · exact HF.out.2.2.2.1 k (by omega) hk
      · omega)
    have hs5 := HB5.out.2.2
    refine hk.mono (fun k hk => ?_) (fun k hk => ?_)
    · rcases hk with hk | hk
      · exact .inl hk
      · exact .inr ⟨by omega, by omega⟩
    · rcases hk with hk | hk
      · have := HF.out.1.bd k (.inl hk); omega
      · exact hk.2
  · exact ch_less (((Ch.of_below HB.out.2.2.2 (Nat.le_refl _)).trans HF.out.2.1).trans (HB5.out.2.1.mono (fun k hk => .inr hk))) (by omega)

set_option maxRecDepth 100000 in
theorem read_nil (i : Int) (w : World) : Calls Try.prog 17 #[.pointer none, .int .i64 i] w (fun e w' => e = .returned (.tuple #[.agg (ofK .u8 zer).toArray, .int .i64 1]) ∧ Below w.heap.size w w') := by
  have HZ := Lib.hid (infoB isB_zer)
  go_enter Try.func17, Try.ntmps17
  go_wp2_with (first
    | ((with_reducible refine wpList_alloc_blk _ rfl 39 rfl (ofK .u8 zer) Try.zeroBl ?_); intro w3 hb3 hbel3 hsz3; have hbx := boxes2 hbel3; simp only [World.size_alloc] at hb3; obtain ⟨k0, k1, hbw⟩ := hbx; have HB := Lib.hid (And.intro hb3 (And.intro hbw (rangeW_blk hb3))); clear hbel3 hsz3 hb3 hbw)
    | (go_at_call 41; refine (asked_nil _ _ _ _).mono ?_; rintro e w' ⟨rfl, rfl⟩)
    | (with_reducible refine wpList_load_any rfl 39 (.tmp 4) rfl (w.heap.size + 1 + 1) 0 rfl (ofK .u8 zer) _ HB.out.2.2 Try.underlying39 rfl HZ.out ?_)
    | ((with_reducible refine wpList_store_blk _ rfl 39 (.tmp 4) (.tmp 10) rfl (w.heap.size + 1 + 1) 39 (ofK .u8 zer) (ofK .u8 zer) HB.out.1 rfl rfl rfl HZ.out (one_ofK _ _) ?_); intro w5 hb5 hc5 hs5; have HB5 := Lib.hid (And.intro hb5 hc5); clear hb5 hc5 hs5))
  refine bodyPost_ret (results_cellTmp Try.results17 _ _ (w.heap.size + 1 + 1) _ _ rfl HB5.out.1 _ Try.underlying39 rfl HZ.out _ rfl) rfl ⟨rfl, ?_⟩
  exact below_ch HB.out.2.1 HB5.out.2 (Nat.le_refl _) (fun k hk => by have : k = w.heap.size + 1 + 1 := hk; omega)

end Go.Proofs.Yticcjaccpcnjhaa
