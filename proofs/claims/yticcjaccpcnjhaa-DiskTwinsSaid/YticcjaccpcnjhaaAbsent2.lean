/-
  DiskAbsent, walked. Conditions: none.
-/
import Derived.Test.YticcjaccpcnjhaaDkS
import Derived.Test.YticcjaccpcnjhaaFrame
import Derived.BigQuiet
import Derived.Deep.QuietTactic
namespace Go.Proofs.Yticcjaccpcnjhaa
open Go Go.RowKit

/-- an act's cells -/
def actC (a : ActD) (kv : Value) : List Value := [.int .i64 a.kind, .int .i64 a.at_, .int .i64 a.n, .int .u8 a.fill, kv]

set_option maxRecDepth 100000 in
set_option maxHeartbeats 4000000 in
theorem diskAbsent_walk (a : ActD) (ao : Option Addr) (len cp : Nat) (w : World) (ha : ActOk w a (.slice ao len cp)) : Calls Try.prog 5 #[.agg (actC a (.slice ao len cp)).toArray] w (TrueP w) := by
  have HIz := Lib.hid (infoB isB_zer)
  have HE2 := Lib.hid eq_zero
  have HF := Lib.hid (And.intro ha.f1 ha.f2)
  clear ha
  go_enter Try.func5, Try.ntmps5
  go_wp2_with (with_reducible refine wpList_box_blk w rfl 49 (.tmp 0) rfl (actC a (.slice ao len cp)) rfl ?_; intro w1 hb1 hbel1 hsz1; have HB1 := Lib.hid (And.intro hb1 (And.intro hbel1 hsz1)); clear hb1 hbel1 hsz1)
  refine (wakes_any w1).mono ?_
  rintro e w2 ⟨rfl, hb2⟩
  have HB2 := Lib.hid (And.intro (HB1.out.1.below hb2 HB1.out.1.lt) (below_thn HB1.out.2.1 hb2 (Nat.le_refl _)))
  have c1 := HB2.out.1.cell 1
  simp only [actC, List.getElem?_cons_succ, List.getElem?_cons_zero] at c1
  clear hb2 HB1
  go_wp2_with fail
  refine (read_nil _ w2).mono ?_
  rintro e w3 ⟨rfl, hb3⟩
  have HB3 := Lib.hid (And.intro (HB2.out.1.below hb3 HB2.out.1.lt) (below_thn HB2.out.2 hb3 (Nat.le_refl _)))
  clear hb3 HB2 c1
  go_wp2_with (first
    | ((with_reducible refine wpList_alloc_blk w3 rfl 39 rfl (ofK .u8 zer) Try.zeroBl ?_); intro w4 hb4 hbel4 hsz4; have HB4 := Lib.hid (And.intro hb4 (And.intro hbel4 hsz4)); clear hb4 hbel4 hsz4)
    | ((with_reducible refine wpList_store_blk w4 rfl 39 (.tmp 4) (.tmp 15) rfl w3.heap.size 39 (ofK .u8 zer) (ofK .u8 zer) HB4.out.1 rfl rfl rfl HIz.out (one_ofK _ _) ?_); intro w5 hb5 hc5 hs5; have HB5 := Lib.hid (And.intro hb5 (show Below w3.heap.size w3 w5 from below_ch HB4.out.2.1 hc5 (Nat.le_refl _) (fun k hk => by have : k = w3.heap.size := hk; omega))); have HR5 := Lib.hid (rangeW_blk HB5.out.1); clear hb5 hc5 hs5; have he2 := HE2.out)
    | (with_reducible refine wpList_load_any rfl 39 (.tmp 4) rfl w3.heap.size 0 rfl (ofK .u8 zer) _ HR5.out Try.underlying39 rfl HIz.out ?_))
  have hb5 := HB3.out.1.below HB5.out.2 HB3.out.1.lt
  have HB6 := Lib.hid (And.intro hb5 (below_thn HB3.out.2 HB5.out.2 (Nat.le_refl _)))
  have c1 := hb5.cell 1
  have c2 := hb5.cell 2
  have c3 := hb5.cell 3
  have c4 := hb5.cell 4
  simp only [actC, List.getElem?_cons_succ, List.getElem?_cons_zero] at c1 c2 c3 c4
  have g1 := fun q => cell_grew c1 q
  have g2 := fun q => cell_grew c2 q
  have g3 := fun q => cell_grew c3 q
  have g4 := fun q => cell_grew c4 q
  clear HB3 HB4 HB5 HR5 hb5 c1 c2 c3 c4
  have C1 := Lib.hid (fun q => filled_any a.fill (grew w5 q) HF.out.1 HF.out.2)
  have C2 := Lib.hid (fun q => write_nil a.at_ (fil a.fill) (grew w5 q))
  have C3 := Lib.hid (fun q => sync_nil (grew w5 q))
  have C4 := Lib.hid (fun q => (arm_nil a.n (grew w5 q)).mono fun e w' (h : _ ∧ _) => And.intro h.1 h.2.symm)
  have C5 := Lib.hid (fun q => (fail_nil a.n (grew w5 q)).mono fun e w' (h : _ ∧ _) => And.intro h.1 h.2.symm)
  have C6 := Lib.hid (fun q => crash_nil ao len cp (grew w5 q))
  refine wp_region_grew (by kernel_rfl) (by kernel_rfl) ?_
  repeat (first | go_big_quiet_skip | (go_big_quiet_want; go_big_quiet_op; (first | go_big_quiet_on | (apply Exists.intro; refine ⟨fun _ => ?_, ?_⟩; (focus (first | (go_at_call 22; exact calls_grew (C1.out _)) | (go_at_call 21; exact calls_grew (C2.out _)) | (go_at_call 23; exact calls_grew (C3.out _)) | (go_at_call 24; exact calls_grew_same (C4.out _)) | (go_at_call 25; exact calls_grew_same (C5.out _)) | (go_at_call 15; exact calls_grew (C6.out _)))); go_big_quiet_on))))
  intro w6 hw6
  obtain ⟨q, rfl⟩ := hw6
  have HB7 := Lib.hid (below_thn HB6.out.2 (below_grew w5 q) (Nat.le_refl _))
  clear HB6 g1 g2 g3 g4 C1 C2 C3 C4 C5 C6 he2
  generalize grew w5 q = w7 at *
  clear HE2 HIz
  go_wp2_with fail
  go_loopw [7, 46] (fun _ c wr => ∃ k : Nat, k ≤ 5 ∧ c = .int .i64 k ∧ Hid (Below w.heap.size w wr)) (fun _ c _ => 5 - (intOf c).toNat)
  case atStart => exact ⟨0, by omega, rfl, HB7⟩
  case round =>
    obtain ⟨k, hk, rfl, HR⟩ := hrel
    by_cases hlt : k = 5
    · subst hlt
      go_wp2_with fail
      refine (len_nil wr).mono ?_
      rintro e w' ⟨rfl, rfl⟩
      go_wp2_with fail
      refine (ops_nil wr).mono ?_
      rintro e w' ⟨rfl, rfl⟩
      go_wp2_with fail
      refine (dead_nil wr).mono ?_
      rintro e w' ⟨rfl, rfl⟩
      go_wp2_with fail
      refine (pending_nil wr).mono ?_
      rintro e w' ⟨rfl, rfl⟩
      go_wp2_with fail
      refine (copy_nil wr).mono ?_
      rintro e w' ⟨rfl, rfl⟩
      go_wp2_with fail
      go_ret
      exact ⟨rfl, HR.out⟩
    · have hk0 : (0 : Int) ≤ (k : Int) := by omega
      have hk1 : (k : Int) < 5 := by omega
      have hix : ∀ w : World, (Instr.index 54 (.agg #[.int .i64 1, .int .i64 1, .int .i64 1, .int .i64 1, .int .i64 1]) (.int .i64 k)).run Try.prog w = .ok (.int .i64 1) w := fun w => run_index_arr Try.underlying54 (by omega) (by omega) (fun _ => by rfl) (fun _ => by rfl) _ (by
        rw [Int.toNat_natCast]
        rcases (show k = 0 ∨ k = 1 ∨ k = 2 ∨ k = 3 ∨ k = 4 by omega) with rfl | rfl | rfl | rfl | rfl <;> rfl)
      go_wp2_with fail
      go_roundw
      case rel => exact ⟨k + 1, by omega, by go_num, HR⟩
      case measure => simp [intOf]; omega

end Go.Proofs.Yticcjaccpcnjhaa
