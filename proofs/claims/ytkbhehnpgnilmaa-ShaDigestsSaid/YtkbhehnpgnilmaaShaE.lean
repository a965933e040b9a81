/-
  ShaBehind, walked. Conditions: eight numbers of 32 bits, 64 bytes.
-/
import Derived.Test.YtkbhehnpgnilmaaRootC
import Derived.Test.YtkbhehnpgnilmaaRefB
import Derived.Test.YtkbhehnpgnilmaaShaO
namespace Go.Proofs.Ytkbhehnpgnilmaa
open Go Go.RowKit

theorem ofN_ofK (xs : List Nat) : ofN xs = ofK .u32 (xs.map fun x : Nat => (x : Int)) := by simp [ofN, ofK]

set_option maxRecDepth 100000 in
theorem run_equalIn_ofN (w : World) (xs : List Nat) (h : xs.length = 8) : (Op.equalIn 10000 42 (.agg (ofN xs).toArray) (.agg (ofN xs).toArray)).run Try.prog w = .ok true w := by
  have := run_equalIn_arrK (P := Try.prog) w .u32 9998 42 41 8 Try.underlying42 Try.underlying41 (fun _ => by rfl) (xs.map fun x : Nat => (x : Int)) (xs.map fun x : Nat => (x : Int)) (by simpa using h) (by simpa using h)
  rw [← ofN_ofK, decide_eq_true rfl] at this
  exact this

set_option maxRecDepth 100000 in
set_option maxHeartbeats 2000000 in
theorem behind_go (hs : List Nat) (bs : List Int) (w : World) (hh : hs.length = 8) (h32 : All32 hs) (hb : bs.length = 64) (ha : AllB bs) :
    Calls Try.prog 10 #[.agg (ofN hs).toArray, .agg (ofK .u8 bs).toArray] w (TrueP w) := by
  have heq := fun w => run_equalIn_ofN w (blockN hs bs) (blockN_length hh h32 ha)
  have H := Lib.hid (And.intro hh (And.intro h32 (And.intro hb ha)))
  have HI := Lib.hid (And.intro (show (Try.prog.info? 42).map (·.size) = some (ofN hs).length by rw [ofN_length, hh]; kernel_rfl) (show (Try.prog.info? 45).map (·.size) = some (ofK .u8 bs).length by rw [length_ofK, hb]; kernel_rfl))
  have B1 := Lib.hid (show Blk ((w.alloc (.cells (ofN hs).toArray 42)).alloc (.cells (ofK .u8 bs).toArray 45)) w.heap.size 42 (ofN hs) ∧ Blk ((w.alloc (.cells (ofN hs).toArray 42)).alloc (.cells (ofK .u8 bs).toArray 45)) (w.heap.size + 1) 45 (ofK .u8 bs) ∧
      Below w.heap.size w ((w.alloc (.cells (ofN hs).toArray 42)).alloc (.cells (ofK .u8 bs).toArray 45)) from by
    have h1 := Blk.new w (ofN hs) 42
    have h2 := Blk.new (w.alloc (.cells (ofN hs).toArray 42)) (ofK .u8 bs) 45
    rw [World.size_alloc] at h2
    exact ⟨h1.alloc _, h2, (((Below.refl _ w).alloc (Nat.le_refl _) _).alloc (by simp) _)⟩)
  clear hh h32 hb ha
  go_enter Try.func10, Try.ntmps10
  go_wp2_with fail
  refine (wakes3_any _).mono ?_
  rintro e w2 ⟨rfl, hbel⟩
  have HW := Lib.hid (And.intro (B1.out.1.below hbel B1.out.1.lt) (And.intro (B1.out.2.1.below hbel B1.out.2.1.lt) (below_thn B1.out.2.2 hbel (Nat.le_refl _))))
  clear hbel B1
  have HS := Lib.hid (show ∀ p, Sl (grew w2 p) (.slice (some ⟨w.heap.size + 1, 0, none⟩) 64 64) (ofK .u8 bs) from fun p => by
    have h := (HW.out.2.1.below (below_grew w2 p) HW.out.2.1.lt).sl 0 64 64 (by rw [length_ofK, H.out.2.2.1]; omega) (Nat.le_refl _) (by unfold maxLen; omega)
    rw [List.drop_zero, List.take_of_length_le (by rw [length_ofK, H.out.2.2.1]; omega)] at h
    exact h)
  go_wp2_with fail
  refine wp_region_grew (by kernel_rfl) (by kernel_rfl) ?_
  repeat (first | go_big_quiet_skip | (go_big_quiet_want; (first | (refine quiet_load_mid 42 (.tmp 2) rfl w.heap.size 0 rfl (ofN hs) _ (fun w' hw' => rangeAt_grew (rangeAt_blk HW.out.1) w' hw') Try.underlying42 rfl HI.out.1 ?_; go_simp; go_big_quiet_on) | (refine quiet_load_mid 45 (.tmp 3) rfl (w.heap.size + 1) 0 rfl (ofK .u8 bs) _ (fun w' hw' => rangeAt_grew (rangeAt_blk HW.out.2.1) w' hw') Try.underlying45 rfl HI.out.2 ?_; go_simp; go_big_quiet_on) | (go_big_quiet_op; (first | go_big_quiet_on | (apply Exists.intro; refine ⟨fun _ => ?_, ?_⟩; (focus (first | (go_at_call 39; with_reducible exact calls_grew (block_any hs bs _ H.out.1 H.out.2.1 H.out.2.2.1 H.out.2.2.2)) | (go_at_call 47; exact calls_grew (rconstants_any _)) | (go_at_call 46; exact calls_grew (rblock_any _ hs bs K64 _ (HS.out _) H.out.2.2.1 H.out.2.2.2 H.out.1 H.out.2.1 rfl)))); go_big_quiet_on))))))
  refine wpQuiet_nil ?_
  intro w5 hw5
  obtain ⟨p, rfl⟩ := hw5
  have HB5 := Lib.hid (below_thn HW.out.2.2 (below_grew w2 p) (Nat.le_refl _))
  generalize grew w2 p = w5 at HB5 ⊢
  go_wp2_with fail
  go_ret
  exact ⟨rfl, HB5.out⟩

theorem ints_nats {hv : List Int} (h : ∀ c ∈ hv, 0 ≤ c ∧ c ≤ 4294967295) : ofK .u32 hv = ofN (hv.map Int.toNat) ∧ All32 (hv.map Int.toNat) := by
  constructor
  · unfold ofK ofN
    rw [List.map_map]
    apply List.map_congr_left
    intro c hc
    have := h c hc
    show Value.int .u32 c = Value.int .u32 ((c.toNat : Nat) : Int)
    rw [Int.toNat_of_nonneg this.1]
  · intro x hx
    obtain ⟨c, hc, rfl⟩ := List.mem_map.1 hx
    have := h c hc
    omega

theorem shaBehind_walk (hv bs : List Int) (w : World) (hh : hv.length = 8) (h32 : ∀ c ∈ hv, 0 ≤ c ∧ c ≤ 4294967295) (hb : bs.length = 64) (ha : AllB bs) :
    Calls Try.prog 10 #[.agg (ofK .u32 hv).toArray, .agg (ofK .u8 bs).toArray] w (TrueP w) := by
  have h := ints_nats h32
  rw [h.1]
  exact behind_go _ bs w (by simpa using hh) h.2 hb ha

end Go.Proofs.Ytkbhehnpgnilmaa
