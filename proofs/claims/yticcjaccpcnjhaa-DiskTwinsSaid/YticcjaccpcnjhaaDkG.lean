/-
  Sync, Crash, walked. Conditions: at most 2^30 writes and acts.
-/
import Derived.Test.YticcjaccpcnjhaaDkF
namespace Go.Proofs.Yticcjaccpcnjhaa
open Go Go.RowKit

theorem decF_bd {n : Int} (h1 : -1 ≤ n) (h2 : n ≤ 9223372036854775807) : -1 ≤ decF n ∧ decF n ≤ 9223372036854775807 := by unfold decF; split <;> (try split) <;> omega

theorem askD_ok {x : Dk} {n : Nat} (h : x.Ok n) (i : Int) (l : Bool) : (askD x i l).Ok n := by
  have ha := decF_bd h.arms1 h.arms2
  have hf := decF_bd h.fails1 h.fails2
  unfold askD
  split
  · exact h
  · split
    · exact h
    · split
      · exact { h with fails1 := by simp, fails2 := by simp }
      · split
        · exact { h with fails1 := hf.1, fails2 := hf.2, arms1 := by simp, arms2 := by simp }
        · refine { h with fails1 := hf.1, fails2 := hf.2, arms1 := ?_, arms2 := ?_ }
          · show -1 ≤ (if l = true then decF x.arms else x.arms)
            split
            · exact ha.1
            · exact h.arms1
          · show (if l = true then decF x.arms else x.arms) ≤ _
            split
            · exact ha.2
            · exact h.arms2

theorem settleD_ok {x : Dk} {n : Nat} (h : x.Ok n) (keep : Nat → Bool) : (settleD keep x).Ok n :=
  { h with len := Nat.zero_le _, firmB := sF_B h.firmB h.looseB _, looseB := fun e he => by cases he }

theorem run_callFunc45 (args : Array Value) (w : World) : Sem.run Try.prog (callFunc 45 args) w = .ok (.enter 45 args) w :=
  run_callFunc_body Try.func45 (by kernel_rfl) (by kernel_rfl) args w
theorem run_callFunc46 (args : Array Value) (w : World) : Sem.run Try.prog (callFunc 46 args) w = .ok (.enter 46 args) w :=
  run_callFunc_body Try.func46 (by kernel_rfl) (by kernel_rfl) args w
theorem run_callFunc40 (args : Array Value) (w : World) : Sem.run Try.prog (callFunc 40 args) w = .ok (.enter 40 args) w :=
  run_callFunc_body Try.func40 (by kernel_rfl) (by kernel_rfl) args w

theorem syncKeep (k : Nat) (w : World) : Calls Try.prog 46 #[.int .i64 k] w (Same w (.bool true)) := by
  go_enter Try.func46, Try.ntmps46
  go_wp2
  go_ret
  exact ⟨rfl, rfl⟩

theorem syncDo (p B0 : Nat) (S : Nat → Prop) (x : Dk) (n : Nat) (w : World) (h : DkAt w p S x) (hx : x.Ok n) (hn : n ≤ 1073741824) (c0 : w.cell? ⟨B0, 0, none⟩ = some (.pointer (some ⟨p, 0, none⟩))) :
    Calls Try.prog 45 #[.pointer (some ⟨B0, 0, none⟩)] w (DoP w p S S (settleD (fun _ => true) x) (fun _ => True)) := by
  obtain ⟨m, lv, al, fl, h⟩ := h
  have HS := Lib.hid (settle_go p S x (fun _ => true) 46 [] n w m lv al fl h hx hn run_callFunc46 (fun k w1 _ _ => syncKeep k w1))
  clear h hx hn
  go_enter Try.func45, Try.ntmps45
  go_wp2_with fail
  refine HS.out.mono ?_
  rintro e w1 ⟨rfl, h1, h2⟩
  have H1 := Lib.hid (And.intro h1 h2)
  clear h1 h2
  go_wp2_with fail
  go_end0
  exact ⟨rfl, H1.out.1, H1.out.2, trivial⟩

/-- a disk behind a sync -/
def syncD (x : Dk) : Dk := finD x 0 true (settleD (fun _ => true) (askD x 0 true))

set_option maxRecDepth 100000 in
set_option maxHeartbeats 1000000 in
theorem sync_any (p : Nat) (S : Nat → Prop) (x : Dk) (n : Nat) (w : World) (h : DkAt w p S x) (hx : x.Ok n) (hn : n ≤ 1073741824) :
    Calls Try.prog 23 #[.pointer (some ⟨p, 0, none⟩)] w (ActP w p S (syncD x) (.int .i64 (askE x 0 true))) := by
  have HA := Lib.hid (show ∀ w1 B0, DkAt w1 p S x → w1.cell? ⟨B0, 0, none⟩ = some (.pointer (some ⟨p, 0, none⟩)) → ¬ S B0 →
      Calls Try.prog 41 #[.pointer (some ⟨p, 0, none⟩), .int .i64 0, .bool true, .func (.func 45) #[] #[.pointer (some ⟨B0, 0, none⟩)]] w1 (AllP w1 p S S x (settleD (fun _ => true) (askD x 0 true)) 0 true (fun _ => True)) from
    fun w1 B0 hd c0 n0 => by
      refine asked_all p S S (fun _ h => h) x _ 0 true _ _ (fun _ => True) w1 n hd hx run_callFunc45 (fun _ w2 hd2 hc2 => ?_) (fun _ _ _ _ => trivial) ?_ ?_
      · exact syncDo p B0 S (askD x 0 true) n w2 hd2 (askD_ok hx 0 true) hn ((hc2.cell (p := ⟨B0, 0, none⟩) (block_of_cell c0) (fun (e : B0 = p) => n0 (e ▸ hd.sp))).trans c0)
      · show 0 ≤ (askD x 0 true).ops
        rw [askD_ops]; exact hx.ops1
      · show (askD x 0 true).ops ≤ _
        rw [askD_ops]; have := hx.ops2; omega)
  have H := Lib.hid (And.intro h (And.intro (Blk.new w [.pointer (some ⟨p, 0, none⟩)] 24) ((Below.refl w.heap.size w).alloc (Nat.le_refl _) (.cells #[.pointer (some ⟨p, 0, none⟩)] 24))))
  clear h hx hn
  go_enter Try.func23, Try.ntmps23
  go_wp2_with fail
  have hnS : ¬ S w.heap.size := fun hs => by have := H.out.1.bd _ hs; omega
  have hd3 := H.out.1.keep (Ch.of_below (S := fun _ => False) H.out.2.2 (Nat.le_refl _)) (fun _ _ h => h)
  have hc3 : Ch S w _ := Ch.of_below H.out.2.2 (Nat.le_refl _)
  refine (HA.out _ _ hd3 (H.out.2.1.cell 0) hnS).mono ?_
  rintro e w4 ⟨rfl, h1, h2, _⟩
  have HF := Lib.hid (And.intro h1 h2)
  have HC := Lib.hid hc3
  clear h1 h2 hc3 hd3 hnS
  go_wp2_with fail
  go_ret
  exact ActP.of HC.out HF.out.1 HF.out.2

theorem write_nil (i : Int) (b : List Int) (w : World) : Calls Try.prog 21 #[.pointer none, .int .i64 i, .agg (ofK .u8 b).toArray] w (fun e w' => e = .returned (.int .i64 1) ∧ Below w.heap.size w w') := by
  go_enter Try.func21, Try.ntmps21
  go_wp2_with (first | (with_reducible refine wpList_box_blk _ rfl 39 (.tmp 2) rfl (ofK .u8 b) rfl ?_; intro w3 hb3 hbel3 hsz3; have hbx := boxes2 hbel3; obtain ⟨k0, k1, hbw⟩ := hbx; have HB := Lib.hid hbw; clear hbel3 hsz3 hb3 hbw) | (go_at_call 41; refine (asked_nil _ _ _ _).mono ?_; rintro e w' ⟨rfl, rfl⟩))
  go_ret
  exact ⟨rfl, HB.out⟩

theorem sync_nil (w : World) : Calls Try.prog 23 #[.pointer none] w (fun e w' => e = .returned (.int .i64 1) ∧ Below w.heap.size w w') := by
  go_enter Try.func23, Try.ntmps23
  go_wp2_with (go_at_call 41; refine (asked_nil _ _ _ _).mono ?_; rintro e w' ⟨rfl, rfl⟩)
  go_ret
  exact ⟨rfl, (Below.refl _ _).alloc (Nat.le_refl _) _⟩

/-! Crash -/

theorem crashKeep (B k : Nat) (v : Value) (bs : List Bool) (w : World) (hk : k ≤ 1073741824) (c0 : w.cell? ⟨B, 0, none⟩ = some v) (hs : Sl w v (bs.map Value.bool)) :
    Calls Try.prog 40 #[.int .i64 k, .pointer (some ⟨B, 0, none⟩)] w (Same w (.bool (bs.getD k false))) := by
  obtain ⟨ao, c, rfl, b2, b3, b4⟩ := hs.shape
  simp only [List.length_map] at *
  unfold maxLen at b3
  clear hs
  by_cases h : k < bs.length
  · obtain ⟨g, o, rfl, hg, hc⟩ := b4 (by omega)
    have hcell := hc k (.bool (bs.getD k false)) (by rw [List.getElem?_map, List.getElem?_eq_getElem h, List.getD_eq_getElem?_getD, List.getElem?_eq_getElem h]; rfl)
    generalize bs.getD k false = b at *
    have hk0 : (0 : Int) ≤ (k : Int) := Int.natCast_nonneg _
    have hk1 : (k : Int) < (bs.length : Int) := by omega
    clear hc b4
    go_enter Try.func40, Try.ntmps40
    go_wp2
    go_ret
    exact ⟨rfl, rfl⟩
  · have hd : decide ((k : Int) < (bs.length : Int)) = false := by simp; omega
    have hf : bs.getD k false = false := by rw [List.getD_eq_getElem?_getD, List.getElem?_eq_none (by omega)]; rfl
    rw [hf]
    clear b4 hf
    go_enter Try.func40, Try.ntmps40
    go_wp2
    go_ret
    exact ⟨rfl, rfl⟩

/-- a disk behind a crash -/
def crashD (bs : List Bool) (x : Dk) : Dk := { settleD (fun k => bs.getD k false) x with out := false, arms := -1, fails := -1 }

end Go.Proofs.Yticcjaccpcnjhaa
