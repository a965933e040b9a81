/-
  ShaTables, walked. Conditions: none.
-/
import Derived.Test.YtkbhehnpgnilmaaShaE
namespace Go.Proofs.Ytkbhehnpgnilmaa
open Go Go.RowKit

set_option maxRecDepth 100000 in
set_option maxHeartbeats 200000 in
theorem rwritten_any (w : World) : Calls Try.prog 42 #[] w (fun e w' => e = .returned (.agg (ofN K64).toArray) ∧ Below w.heap.size w w') := by
  go_enter Try.func42, Try.ntmps42
  go_upto_region 1 with fail
  iterate 1 go_step
  refine wpList_of_run _ rfl (.agg (ofN K64).toArray) (fun _ => by kernel_rfl) ?_
  refine wpList_store_blk _ rfl 46 (.tmp 0) (.tmp 1) rfl w.heap.size 46 _ (ofN K64) (heap_alloc_new _ _) rfl rfl (by rfl) (by kernel_rfl) (one_ofN _) ?_
  intro w1 hb hch hsz
  go_wp2
  refine bodyPost_ret (v := .agg (ofN K64).toArray) ?_ rfl ⟨rfl, below_ch ((Below.refl _ _).alloc (Nat.le_refl _) _) hch (Nat.le_refl _) (fun i hi => by have hi2 : i = w.heap.size := hi; omega)⟩
  exact results_blk Try.results42 _ _ w.heap.size _ _ rfl hb _ Try.underlying46 rfl (by kernel_rfl)

set_option maxRecDepth 100000 in
theorem run_equalIn_of64 (w : World) (xs : List Nat) (h : xs.length = 64) : (Op.equalIn 10000 46 (.agg (ofN xs).toArray) (.agg (ofN xs).toArray)).run Try.prog w = .ok true w := by
  have := run_equalIn_arrK (P := Try.prog) w .u32 9998 46 41 64 Try.underlying46 Try.underlying41 (fun _ => by rfl) (xs.map fun x : Nat => (x : Int)) (xs.map fun x : Nat => (x : Int)) (by simpa using h) (by simpa using h)
  rw [← ofN_ofK, decide_eq_true rfl] at this
  exact this

set_option maxRecDepth 100000 in
set_option maxHeartbeats 2000000 in
theorem tables_go (i : Int) (a p y : Nat) (w : World) (ha : (IntKind.u64.wrap i).tmod 64 = (a : Int)) (ha1 : a < 64) (hp : P64.getD a 0 = p) (hpl : p < 512) (hy : K64.getD a 0 = y) (hdy : dF (p * 4294967296 * 18446744073709551616) true 37 % 4294967296 = y) :
    Calls Try.prog 9 #[.int .i64 i] w (TrueP w) := by
  obtain ⟨K, hK⟩ : ∃ K, K = K64 := ⟨_, rfl⟩
  obtain ⟨S, hS⟩ : ∃ S, S = H8 := ⟨_, rfl⟩
  have HK := Lib.hid (And.intro hK (show K.length = 64 by rw [hK]; decide))
  have HS := Lib.hid (And.intro hS (show S.length = 8 by rw [hS]; decide))
  have H := Lib.hid (And.intro ha1 (And.intro hp (And.intro hpl (And.intro hy hdy))))
  have he64 := fun w => run_equalIn_of64 w K HK.out.2
  have he8 := fun w => run_equalIn_ofN w S HS.out.2
  have HI := Lib.hid (And.intro (show (Try.prog.info? 46).map (·.size) = some (ofN K).length by rw [ofN_length, HK.out.2]; kernel_rfl) (show (Try.prog.info? 42).map (·.size) = some (ofN S).length by rw [ofN_length, HS.out.2]; kernel_rfl))
  have HL := Lib.hid (And.intro (show (ofN K).length = ([.int .u32 0, .int .u32 0, .int .u32 0, .int .u32 0, .int .u32 0, .int .u32 0, .int .u32 0, .int .u32 0, .int .u32 0, .int .u32 0, .int .u32 0, .int .u32 0, .int .u32 0, .int .u32 0, .int .u32 0, .int .u32 0, .int .u32 0, .int .u32 0, .int .u32 0, .int .u32 0, .int .u32 0, .int .u32 0, .int .u32 0, .int .u32 0, .int .u32 0, .int .u32 0, .int .u32 0, .int .u32 0, .int .u32 0, .int .u32 0, .int .u32 0, .int .u32 0, .int .u32 0, .int .u32 0, .int .u32 0, .int .u32 0, .int .u32 0, .int .u32 0, .int .u32 0, .int .u32 0, .int .u32 0, .int .u32 0, .int .u32 0, .int .u32 0, .int .u32 0, .int .u32 0, .int .u32 0, .int .u32 0, .int .u32 0, .int .u32 0, .int .u32 0, .int .u32 0, .int .u32 0, .int .u32 0, .int .u32 0, .int .u32 0, .int .u32 0, .int .u32 0, .int .u32 0, .int .u32 0, .int .u32 0, .int .u32 0, .int .u32 0, .int .u32 0] : List Value).length by rw [ofN_length, HK.out.2]; rfl) (show (ofN S).length = ([.int .u32 0, .int .u32 0, .int .u32 0, .int .u32 0, .int .u32 0, .int .u32 0, .int .u32 0, .int .u32 0] : List Value).length by rw [ofN_length, HS.out.2]; rfl))
  have HZ := Lib.hid (show ∀ w : World, Blk ((w.alloc (.cells #[.int .u32 0, .int .u32 0, .int .u32 0, .int .u32 0, .int .u32 0, .int .u32 0, .int .u32 0, .int .u32 0, .int .u32 0, .int .u32 0, .int .u32 0, .int .u32 0, .int .u32 0, .int .u32 0, .int .u32 0, .int .u32 0, .int .u32 0, .int .u32 0, .int .u32 0, .int .u32 0, .int .u32 0, .int .u32 0, .int .u32 0, .int .u32 0, .int .u32 0, .int .u32 0, .int .u32 0, .int .u32 0, .int .u32 0, .int .u32 0, .int .u32 0, .int .u32 0, .int .u32 0, .int .u32 0, .int .u32 0, .int .u32 0, .int .u32 0, .int .u32 0, .int .u32 0, .int .u32 0, .int .u32 0, .int .u32 0, .int .u32 0, .int .u32 0, .int .u32 0, .int .u32 0, .int .u32 0, .int .u32 0, .int .u32 0, .int .u32 0, .int .u32 0, .int .u32 0, .int .u32 0, .int .u32 0, .int .u32 0, .int .u32 0, .int .u32 0, .int .u32 0, .int .u32 0, .int .u32 0, .int .u32 0, .int .u32 0, .int .u32 0, .int .u32 0] 46)).alloc (.cells #[.int .u32 0, .int .u32 0, .int .u32 0, .int .u32 0, .int .u32 0, .int .u32 0, .int .u32 0, .int .u32 0] 42)) w.heap.size 46 [.int .u32 0, .int .u32 0, .int .u32 0, .int .u32 0, .int .u32 0, .int .u32 0, .int .u32 0, .int .u32 0, .int .u32 0, .int .u32 0, .int .u32 0, .int .u32 0, .int .u32 0, .int .u32 0, .int .u32 0, .int .u32 0, .int .u32 0, .int .u32 0, .int .u32 0, .int .u32 0, .int .u32 0, .int .u32 0, .int .u32 0, .int .u32 0, .int .u32 0, .int .u32 0, .int .u32 0, .int .u32 0, .int .u32 0, .int .u32 0, .int .u32 0, .int .u32 0, .int .u32 0, .int .u32 0, .int .u32 0, .int .u32 0, .int .u32 0, .int .u32 0, .int .u32 0, .int .u32 0, .int .u32 0, .int .u32 0, .int .u32 0, .int .u32 0, .int .u32 0, .int .u32 0, .int .u32 0, .int .u32 0, .int .u32 0, .int .u32 0, .int .u32 0, .int .u32 0, .int .u32 0, .int .u32 0, .int .u32 0, .int .u32 0, .int .u32 0, .int .u32 0, .int .u32 0, .int .u32 0, .int .u32 0, .int .u32 0, .int .u32 0, .int .u32 0] ∧ Blk ((w.alloc (.cells #[.int .u32 0, .int .u32 0, .int .u32 0, .int .u32 0, .int .u32 0, .int .u32 0, .int .u32 0, .int .u32 0, .int .u32 0, .int .u32 0, .int .u32 0, .int .u32 0, .int .u32 0, .int .u32 0, .int .u32 0, .int .u32 0, .int .u32 0, .int .u32 0, .int .u32 0, .int .u32 0, .int .u32 0, .int .u32 0, .int .u32 0, .int .u32 0, .int .u32 0, .int .u32 0, .int .u32 0, .int .u32 0, .int .u32 0, .int .u32 0, .int .u32 0, .int .u32 0, .int .u32 0, .int .u32 0, .int .u32 0, .int .u32 0, .int .u32 0, .int .u32 0, .int .u32 0, .int .u32 0, .int .u32 0, .int .u32 0, .int .u32 0, .int .u32 0, .int .u32 0, .int .u32 0, .int .u32 0, .int .u32 0, .int .u32 0, .int .u32 0, .int .u32 0, .int .u32 0, .int .u32 0, .int .u32 0, .int .u32 0, .int .u32 0, .int .u32 0, .int .u32 0, .int .u32 0, .int .u32 0, .int .u32 0, .int .u32 0, .int .u32 0, .int .u32 0] 46)).alloc (.cells #[.int .u32 0, .int .u32 0, .int .u32 0, .int .u32 0, .int .u32 0, .int .u32 0, .int .u32 0, .int .u32 0] 42)) (w.heap.size + 1) 42 [.int .u32 0, .int .u32 0, .int .u32 0, .int .u32 0, .int .u32 0, .int .u32 0, .int .u32 0, .int .u32 0] ∧ Below w.heap.size w ((w.alloc (.cells #[.int .u32 0, .int .u32 0, .int .u32 0, .int .u32 0, .int .u32 0, .int .u32 0, .int .u32 0, .int .u32 0, .int .u32 0, .int .u32 0, .int .u32 0, .int .u32 0, .int .u32 0, .int .u32 0, .int .u32 0, .int .u32 0, .int .u32 0, .int .u32 0, .int .u32 0, .int .u32 0, .int .u32 0, .int .u32 0, .int .u32 0, .int .u32 0, .int .u32 0, .int .u32 0, .int .u32 0, .int .u32 0, .int .u32 0, .int .u32 0, .int .u32 0, .int .u32 0, .int .u32 0, .int .u32 0, .int .u32 0, .int .u32 0, .int .u32 0, .int .u32 0, .int .u32 0, .int .u32 0, .int .u32 0, .int .u32 0, .int .u32 0, .int .u32 0, .int .u32 0, .int .u32 0, .int .u32 0, .int .u32 0, .int .u32 0, .int .u32 0, .int .u32 0, .int .u32 0, .int .u32 0, .int .u32 0, .int .u32 0, .int .u32 0, .int .u32 0, .int .u32 0, .int .u32 0, .int .u32 0, .int .u32 0, .int .u32 0, .int .u32 0, .int .u32 0] 46)).alloc (.cells #[.int .u32 0, .int .u32 0, .int .u32 0, .int .u32 0, .int .u32 0, .int .u32 0, .int .u32 0, .int .u32 0] 42)) from fun w => by
    have h1 := Blk.new w [.int .u32 0, .int .u32 0, .int .u32 0, .int .u32 0, .int .u32 0, .int .u32 0, .int .u32 0, .int .u32 0, .int .u32 0, .int .u32 0, .int .u32 0, .int .u32 0, .int .u32 0, .int .u32 0, .int .u32 0, .int .u32 0, .int .u32 0, .int .u32 0, .int .u32 0, .int .u32 0, .int .u32 0, .int .u32 0, .int .u32 0, .int .u32 0, .int .u32 0, .int .u32 0, .int .u32 0, .int .u32 0, .int .u32 0, .int .u32 0, .int .u32 0, .int .u32 0, .int .u32 0, .int .u32 0, .int .u32 0, .int .u32 0, .int .u32 0, .int .u32 0, .int .u32 0, .int .u32 0, .int .u32 0, .int .u32 0, .int .u32 0, .int .u32 0, .int .u32 0, .int .u32 0, .int .u32 0, .int .u32 0, .int .u32 0, .int .u32 0, .int .u32 0, .int .u32 0, .int .u32 0, .int .u32 0, .int .u32 0, .int .u32 0, .int .u32 0, .int .u32 0, .int .u32 0, .int .u32 0, .int .u32 0, .int .u32 0, .int .u32 0, .int .u32 0] 46
    have h2 := Blk.new (w.alloc (.cells #[.int .u32 0, .int .u32 0, .int .u32 0, .int .u32 0, .int .u32 0, .int .u32 0, .int .u32 0, .int .u32 0, .int .u32 0, .int .u32 0, .int .u32 0, .int .u32 0, .int .u32 0, .int .u32 0, .int .u32 0, .int .u32 0, .int .u32 0, .int .u32 0, .int .u32 0, .int .u32 0, .int .u32 0, .int .u32 0, .int .u32 0, .int .u32 0, .int .u32 0, .int .u32 0, .int .u32 0, .int .u32 0, .int .u32 0, .int .u32 0, .int .u32 0, .int .u32 0, .int .u32 0, .int .u32 0, .int .u32 0, .int .u32 0, .int .u32 0, .int .u32 0, .int .u32 0, .int .u32 0, .int .u32 0, .int .u32 0, .int .u32 0, .int .u32 0, .int .u32 0, .int .u32 0, .int .u32 0, .int .u32 0, .int .u32 0, .int .u32 0, .int .u32 0, .int .u32 0, .int .u32 0, .int .u32 0, .int .u32 0, .int .u32 0, .int .u32 0, .int .u32 0, .int .u32 0, .int .u32 0, .int .u32 0, .int .u32 0, .int .u32 0, .int .u32 0] 46)) [.int .u32 0, .int .u32 0, .int .u32 0, .int .u32 0, .int .u32 0, .int .u32 0, .int .u32 0, .int .u32 0] 42
    rw [World.size_alloc] at h2
    exact ⟨h1.alloc _, h2, (((Below.refl _ w).alloc (Nat.le_refl _) _).alloc (by simp) _)⟩)
  have hWr := fun w' => rwritten_any w'
  have hSt := fun w' => rstart_any w'
  rw [← hK] at hWr
  rw [← hS] at hSt
  have HWr := Lib.hid hWr
  have HSt := Lib.hid hSt
  clear hK hS hp hpl hy hdy hWr hSt
  go_enter Try.func9, Try.ntmps9
  go_wp2_with fail
  refine (wakes3_any _).mono ?_
  rintro e w2 ⟨rfl, hbel2⟩
  go_wp2_with fail
  refine (constants_any _).mono ?_
  rintro e w3 ⟨rfl, hbel3⟩
  rw [← HK.out.1]
  have HB3 := Lib.hid (below_thn hbel2 hbel3 (Nat.le_refl _))
  clear hbel2 hbel3
  go_wp2_with fail
  refine (start_any _).mono ?_
  rintro e w4 ⟨rfl, hbel⟩
  rw [← HS.out.1]
  have HB4 := Lib.hid (below_thn HB3.out hbel (Nat.le_refl _))
  have HZ4 := Lib.hid (HZ.out w4)
  clear hbel HB3 HZ
  go_wp2_with (first
    | (with_reducible refine wpList_store_blk _ rfl 46 (.tmp 3) (.tmp 8) rfl w4.heap.size 46 [.int .u32 0, .int .u32 0, .int .u32 0, .int .u32 0, .int .u32 0, .int .u32 0, .int .u32 0, .int .u32 0, .int .u32 0, .int .u32 0, .int .u32 0, .int .u32 0, .int .u32 0, .int .u32 0, .int .u32 0, .int .u32 0, .int .u32 0, .int .u32 0, .int .u32 0, .int .u32 0, .int .u32 0, .int .u32 0, .int .u32 0, .int .u32 0, .int .u32 0, .int .u32 0, .int .u32 0, .int .u32 0, .int .u32 0, .int .u32 0, .int .u32 0, .int .u32 0, .int .u32 0, .int .u32 0, .int .u32 0, .int .u32 0, .int .u32 0, .int .u32 0, .int .u32 0, .int .u32 0, .int .u32 0, .int .u32 0, .int .u32 0, .int .u32 0, .int .u32 0, .int .u32 0, .int .u32 0, .int .u32 0, .int .u32 0, .int .u32 0, .int .u32 0, .int .u32 0, .int .u32 0, .int .u32 0, .int .u32 0, .int .u32 0, .int .u32 0, .int .u32 0, .int .u32 0, .int .u32 0, .int .u32 0, .int .u32 0, .int .u32 0, .int .u32 0] (ofN K) HZ4.out.1 rfl rfl HL.out.1 HI.out.1 (one_ofN _) ?_; intro w5 hb5 hch5 hsz5; clear hsz5; have HF5 := Lib.hid (And.intro hb5 (And.intro (HZ4.out.2.1.keep hch5 (fun h => by have h2 : w4.heap.size + 1 = w4.heap.size := h; omega)) (below_ch HZ4.out.2.2 hch5 (Nat.le_refl _) (fun k h => by have h2 : k = w4.heap.size := h; omega)))); clear hb5 hch5)
    | (with_reducible refine wpList_store_blk _ rfl 42 (.tmp 4) (.tmp 9) rfl (w4.heap.size + 1) 42 [.int .u32 0, .int .u32 0, .int .u32 0, .int .u32 0, .int .u32 0, .int .u32 0, .int .u32 0, .int .u32 0] (ofN S) HF5.out.2.1 rfl rfl HL.out.2 HI.out.2 (one_ofN _) ?_; intro w6 hb6 hch6 hsz6; clear hsz6; have HF6 := Lib.hid (And.intro (HF5.out.1.keep hch6 (fun h => by have h2 : w4.heap.size = w4.heap.size + 1 := h; omega)) (And.intro hb6 (below_ch HF5.out.2.2 hch6 (Nat.le_refl _) (fun k h => by have h2 : k = w4.heap.size + 1 := h; omega)))); clear hb6 hch6))
  have HW6 := Lib.hid (below_thn HB4.out HF6.out.2.2 (Nat.le_refl _))
  clear HF5 HZ4 HL HB4
  dsimp only [Act.put]
  refine wp_region_grew (by kernel_rfl) (by kernel_rfl) ?_
  repeat (first | go_big_quiet_skip | (go_big_quiet_want; (first | (refine quiet_load_mid 46 (.tmp 3) rfl w4.heap.size 0 rfl (ofN K) _ (fun w' hw' => rangeAt_grew (rangeAt_blk HF6.out.1) w' hw') Try.underlying46 rfl HI.out.1 ?_; go_simp; go_big_quiet_on) | (refine quiet_load_mid 42 (.tmp 4) rfl (w4.heap.size + 1) 0 rfl (ofN S) _ (fun w' hw' => rangeAt_grew (rangeAt_blk HF6.out.2.1) w' hw') Try.underlying42 rfl HI.out.2 ?_; go_simp; go_big_quiet_on) | (go_big_quiet_op; (first | go_big_quiet_on | (apply Exists.intro; refine ⟨fun _ => ?_, ?_⟩; (focus (first | (go_at_call 42; exact calls_grew (HWr.out _)) | (go_at_call 43; exact calls_grew (HSt.out _)))); go_big_quiet_on))))))
  refine wpQuiet_nil ?_
  intro w7 hw7
  obtain ⟨z, rfl⟩ := hw7
  have hbel := below_grew w6 z
  have HF7 := Lib.hid (HF6.out.1.below hbel HF6.out.1.lt)
  have HW7 := Lib.hid (below_thn HW6.out hbel (Nat.le_refl _))
  have hcell : (grew w6 z).cell? ⟨w4.heap.size, a, none⟩ = some (.int .u32 (y : Int)) := by
    rw [cell_ofN HF7.out a (by rw [HK.out.2]; exact ha1), HK.out.1, H.out.2.2.2.1]
  generalize grew w6 z = w7 at HF7 HW7 hcell ⊢
  have hgc := fun q => cell_grew hcell q
  have hwa : IntKind.u64.wrap (a : Int) = (a : Int) := by rw [IntKind.wrap_u64]; omega
  have hwi : IntKind.i64.wrap (a : Int) = (a : Int) := IntWalk.i64_in _ (by omega)
  have hca : (a : Int) < 64 := by omega
  have hc0 : (0 : Int) ≤ (a : Int) := by omega
  clear hbel HF6 HW6 he64 he8 HI hcell HF7
  go_wp2_with fail
  refine wp_region_grew (by kernel_rfl) (by kernel_rfl) ?_
  repeat (first | go_big_quiet_skip | (go_big_quiet_want; go_big_quiet_op; (first | go_big_quiet_on | (apply Exists.intro; refine ⟨fun _ => ?_, ?_⟩; (focus (first | (go_at_call 45; exact calls_grew_same (prime_any a p _ H.out.1 H.out.2.1)) | (go_at_call 44; exact calls_grew_same (digits_any p y true _ _ H.out.2.2.1 rfl H.out.2.2.2.2)))); go_big_quiet_on))))
  refine wpQuiet_nil ?_
  intro w8 hw8
  obtain ⟨q, rfl⟩ := hw8
  have HB8 := Lib.hid (below_thn HW7.out (below_grew w7 q) (Nat.le_refl _))
  generalize grew w7 q = w8 at HB8 ⊢
  go_wp2_with fail
  go_ret
  exact ⟨rfl, HB8.out⟩

theorem shaTables_walk (i : Int) (w : World) (_ : -9223372036854775808 ≤ i ∧ i ≤ 9223372036854775807) : Calls Try.prog 9 #[.int .i64 i] w (TrueP w) := by
  have hw : 0 ≤ IntKind.u64.wrap i := by show 0 ≤ i % 18446744073709551616; omega
  obtain ⟨a, ha⟩ : ∃ o : Nat, (IntKind.u64.wrap i).tmod 64 = (o : Int) := ⟨((IntKind.u64.wrap i).tmod 64).toNat, by rw [Int.tmod_eq_emod_of_nonneg hw]; omega⟩
  have ha1 : a < 64 := by rw [Int.tmod_eq_emod_of_nonneg hw] at ha; omega
  have ht := constants_table ⟨a, ha1⟩
  exact tables_go i a _ _ w ha ha1 rfl ht.1 rfl ht.2

end Go.Proofs.Ytkbhehnpgnilmaa
