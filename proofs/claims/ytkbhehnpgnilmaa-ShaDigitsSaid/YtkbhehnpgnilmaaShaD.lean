/-
  ShaDigits, walked. Conditions: digests of 32 bytes.
-/
import Derived.Test.YtkbhehnpgnilmaaShaX
import Derived.Test.YtkbhehnpgnilmaaRefP
import Derived.Test.YtkbhehnpgnilmaaRefL
namespace Go.Proofs.Ytkbhehnpgnilmaa
open Go Go.RowKit

set_option maxRecDepth 100000 in
set_option maxHeartbeats 2000000 in
theorem shaDigits_go (av bv : List Int) (s : ByteArray) (x : List Int) (e1 : Int) (w : World) (ha : av.length = 32) (hab : AllB av) (hb : bv.length = 32) (_hbb : AllB bv) (hps : parseF (ints s) = (x, e1)) (hx : x.length = 32) (he1 : e1 = 0 ∨ e1 = 130) :
    Calls Try.prog 3 #[.agg (ofK .u8 av).toArray, .agg (ofK .u8 bv).toArray, .string s] w (TrueP w) := by
  have H := Lib.hid (And.intro ha (And.intro hab (And.intro hb (And.intro hps hx))))
  have heq : ∀ w, (Op.equalIn 10000 23 (.agg (ofK .u8 x).toArray) (.agg (ofK .u8 x).toArray)).run Try.prog w = .ok (decide (x = x)) w := fun w => run_equalIn_arrK (P := Try.prog) w .u8 9998 23 5 32 Try.underlying23 Try.underlying5 (fun _ => by rfl) x x hx hx
  rw [decide_eq_true rfl] at heq
  clear ha hab hb hps hx
  have HI := Lib.hid (show ∀ xs : List Int, xs.length = 32 → (Try.prog.info? 23).map (·.size) = some (ofK .u8 xs).length from fun xs hx => by rw [length_ofK, hx]; kernel_rfl)
  have HY := Lib.hid (show ∀ w : World, Blk (w.alloc (.cells #[.int .u8 0, .int .u8 0, .int .u8 0, .int .u8 0, .int .u8 0, .int .u8 0, .int .u8 0, .int .u8 0, .int .u8 0, .int .u8 0, .int .u8 0, .int .u8 0, .int .u8 0, .int .u8 0, .int .u8 0, .int .u8 0, .int .u8 0, .int .u8 0, .int .u8 0, .int .u8 0, .int .u8 0, .int .u8 0, .int .u8 0, .int .u8 0, .int .u8 0, .int .u8 0, .int .u8 0, .int .u8 0, .int .u8 0, .int .u8 0, .int .u8 0, .int .u8 0] 23)) w.heap.size 23 [.int .u8 0, .int .u8 0, .int .u8 0, .int .u8 0, .int .u8 0, .int .u8 0, .int .u8 0, .int .u8 0, .int .u8 0, .int .u8 0, .int .u8 0, .int .u8 0, .int .u8 0, .int .u8 0, .int .u8 0, .int .u8 0, .int .u8 0, .int .u8 0, .int .u8 0, .int .u8 0, .int .u8 0, .int .u8 0, .int .u8 0, .int .u8 0, .int .u8 0, .int .u8 0, .int .u8 0, .int .u8 0, .int .u8 0, .int .u8 0, .int .u8 0, .int .u8 0] from fun w => Blk.new w [.int .u8 0, .int .u8 0, .int .u8 0, .int .u8 0, .int .u8 0, .int .u8 0, .int .u8 0, .int .u8 0, .int .u8 0, .int .u8 0, .int .u8 0, .int .u8 0, .int .u8 0, .int .u8 0, .int .u8 0, .int .u8 0, .int .u8 0, .int .u8 0, .int .u8 0, .int .u8 0, .int .u8 0, .int .u8 0, .int .u8 0, .int .u8 0, .int .u8 0, .int .u8 0, .int .u8 0, .int .u8 0, .int .u8 0, .int .u8 0, .int .u8 0, .int .u8 0] 23)
  have H1 := Lib.hid (show ∀ xs : List Int, xs.length = 32 → (ofK .u8 xs).length = ([.int .u8 0, .int .u8 0, .int .u8 0, .int .u8 0, .int .u8 0, .int .u8 0, .int .u8 0, .int .u8 0, .int .u8 0, .int .u8 0, .int .u8 0, .int .u8 0, .int .u8 0, .int .u8 0, .int .u8 0, .int .u8 0, .int .u8 0, .int .u8 0, .int .u8 0, .int .u8 0, .int .u8 0, .int .u8 0, .int .u8 0, .int .u8 0, .int .u8 0, .int .u8 0, .int .u8 0, .int .u8 0, .int .u8 0, .int .u8 0, .int .u8 0, .int .u8 0] : List Value).length from fun xs hx => by rw [length_ofK, hx]; rfl)
  have B1 := Lib.hid (show Blk ((w.alloc (.cells (ofK .u8 av).toArray 23)).alloc (.cells (ofK .u8 bv).toArray 23)) w.heap.size 23 (ofK .u8 av) ∧ Blk ((w.alloc (.cells (ofK .u8 av).toArray 23)).alloc (.cells (ofK .u8 bv).toArray 23)) (w.heap.size + 1) 23 (ofK .u8 bv) ∧
      Below w.heap.size w ((w.alloc (.cells (ofK .u8 av).toArray 23)).alloc (.cells (ofK .u8 bv).toArray 23)) from by
    have h1 := Blk.new w (ofK .u8 av) 23
    have h2 := Blk.new (w.alloc (.cells (ofK .u8 av).toArray 23)) (ofK .u8 bv) 23
    rw [World.size_alloc] at h2
    exact ⟨h1.alloc _, h2, (((Below.refl _ w).alloc (Nat.le_refl _) _).alloc (by simp) _)⟩)
  go_enter Try.func3, Try.ntmps3
  go_wp2_with fail
  refine (wakes3_any _).mono ?_
  rintro e w2 ⟨rfl, hbel⟩
  have HW2 := Lib.hid (And.intro (B1.out.1.below hbel B1.out.1.lt) (And.intro (B1.out.2.1.below hbel B1.out.2.1.lt) (below_thn B1.out.2.2 hbel (Nat.le_refl _))))
  clear hbel B1
  go_wp2_with fail
  refine (parse_of s x e1 _ H.out.2.2.2.1).mono ?_
  rintro e w4 ⟨rfl, hbel⟩
  have HW4 := Lib.hid (And.intro (HW2.out.1.below hbel HW2.out.1.lt) (And.intro (HW2.out.2.1.below hbel HW2.out.2.1.lt) (below_thn HW2.out.2.2 hbel (Nat.le_refl _))))
  clear hbel HW2
  go_wp2_with (with_reducible refine wpList_store_blk _ rfl 23 (.tmp 7) (.tmp 16) rfl w4.heap.size 23 [.int .u8 0, .int .u8 0, .int .u8 0, .int .u8 0, .int .u8 0, .int .u8 0, .int .u8 0, .int .u8 0, .int .u8 0, .int .u8 0, .int .u8 0, .int .u8 0, .int .u8 0, .int .u8 0, .int .u8 0, .int .u8 0, .int .u8 0, .int .u8 0, .int .u8 0, .int .u8 0, .int .u8 0, .int .u8 0, .int .u8 0, .int .u8 0, .int .u8 0, .int .u8 0, .int .u8 0, .int .u8 0, .int .u8 0, .int .u8 0, .int .u8 0, .int .u8 0] (ofK .u8 x) (HY.out _) rfl rfl (H1.out _ H.out.2.2.2.2) (HI.out _ H.out.2.2.2.2) (one_ofK _ _) ?_; intro w5 hb5 hch5 hsz5; clear hsz5)
  have hbel := fresh_ch hch5
  have HW5 := Lib.hid (And.intro (HW4.out.1.below hbel HW4.out.1.lt) (And.intro (HW4.out.2.1.below hbel HW4.out.2.1.lt) (And.intro (below_thn HW4.out.2.2 hbel (Nat.le_refl _)) hb5)))
  clear hbel HW4 hch5 hb5
  refine (rparse_any s x e1 _ H.out.2.2.2.1).mono ?_
  rintro e w6 ⟨rfl, hbel⟩
  have HW6 := Lib.hid (And.intro (HW5.out.1.below hbel HW5.out.1.lt) (And.intro (HW5.out.2.1.below hbel HW5.out.2.1.lt) (And.intro (below_thn HW5.out.2.2.1 hbel (Nat.le_refl _)) (HW5.out.2.2.2.below hbel HW5.out.2.2.2.lt))))
  clear hbel HW5
  have HC1 : Hid (∀ w', Calls Try.prog 27 #[.agg (ofK .u8 av).toArray] w' (fun e w'' => e = .returned (.string (toB (textL av))) ∧ Below w'.heap.size w' w'')) := Lib.hid (fun w' => text_any av w' H.out.1 H.out.2.1)
  rcases he1 with rfl | rfl
  · go_wp2_with (first
      | (with_reducible refine wpList_store_blk _ rfl 23 (.tmp 9) (.tmp 21) rfl w6.heap.size 23 [.int .u8 0, .int .u8 0, .int .u8 0, .int .u8 0, .int .u8 0, .int .u8 0, .int .u8 0, .int .u8 0, .int .u8 0, .int .u8 0, .int .u8 0, .int .u8 0, .int .u8 0, .int .u8 0, .int .u8 0, .int .u8 0, .int .u8 0, .int .u8 0, .int .u8 0, .int .u8 0, .int .u8 0, .int .u8 0, .int .u8 0, .int .u8 0, .int .u8 0, .int .u8 0, .int .u8 0, .int .u8 0, .int .u8 0, .int .u8 0, .int .u8 0, .int .u8 0] (ofK .u8 x) (HY.out _) rfl rfl (H1.out _ H.out.2.2.2.2) (HI.out _ H.out.2.2.2.2) (one_ofK _ _) ?_; intro w7 hb7 hch7 hsz7; clear hsz7; have HF7 := Lib.hid (And.intro hb7 (fresh_ch hch7)); clear hb7 hch7)
      | (refine wpList_load_want rfl 23 (.tmp 7) rfl w4.heap.size 0 rfl (ofK .u8 x) _ (rangeAt_blk (HW6.out.2.2.2.below HF7.out.2 HW6.out.2.2.2.lt)) Try.underlying23 rfl (HI.out _ H.out.2.2.2.2) ?_)
      | (refine wpList_load_want rfl 23 (.tmp 9) rfl w6.heap.size 0 rfl (ofK .u8 x) _ (rangeAt_blk HF7.out.1) Try.underlying23 rfl (HI.out _ H.out.2.2.2.2) ?_))
    have HW7 := Lib.hid (And.intro (HW6.out.1.below HF7.out.2 HW6.out.1.lt) (And.intro (HW6.out.2.1.below HF7.out.2 HW6.out.2.1.lt) (below_thn HW6.out.2.2.1 HF7.out.2 (Nat.le_refl _))))
    clear HW6 HF7 heq HY H1
    refine wp_region_grew (by kernel_rfl) (by kernel_rfl) ?_
    repeat (first | go_big_quiet_skip | (go_big_quiet_want; (first | (refine quiet_load_mid 23 (.tmp 3) rfl w.heap.size 0 rfl (ofK .u8 av) _ (fun w' hw' => rangeAt_grew (rangeAt_blk HW7.out.1) w' hw') Try.underlying23 rfl (HI.out _ H.out.1) ?_; go_simp; go_big_quiet_on) | (refine quiet_load_mid 23 (.tmp 4) rfl (w.heap.size + 1) 0 rfl (ofK .u8 bv) _ (fun w' hw' => rangeAt_grew (rangeAt_blk HW7.out.2.1) w' hw') Try.underlying23 rfl (HI.out _ H.out.2.2.1) ?_; go_simp; go_big_quiet_on) | (go_big_quiet_op; (first | go_big_quiet_on | (apply Exists.intro; refine ⟨fun _ => ?_, ?_⟩; (focus (first | (go_at_call 27; with_reducible exact calls_grew (text_any av _ H.out.1 H.out.2.1)) | (go_at_call 28; with_reducible exact calls_grew (rtext_any av _ H.out.1 H.out.2.1)) | (go_at_call 29; first | (with_reducible exact calls_grew (less_any av bv _ H.out.1 H.out.2.2.1)) | (with_reducible exact calls_grew (less_any bv av _ H.out.2.2.1 H.out.1))) | (go_at_call 30; first | (with_reducible exact calls_grew (rless_any av bv _ H.out.1 H.out.2.2.1)) | (with_reducible exact calls_grew (rless_any bv av _ H.out.2.2.1 H.out.1))))); go_big_quiet_on))))))
    refine wpQuiet_nil ?_
    intro w8 hw8
    obtain ⟨p, rfl⟩ := hw8
    have HB8 := Lib.hid (below_thn HW7.out.2.2 (below_grew w7 p) (Nat.le_refl _))
    generalize grew w7 p = w8 at HB8 ⊢
    go_wp2_with fail
    go_ret
    exact ⟨rfl, HB8.out⟩
  · go_wp2_with (first
      | (with_reducible refine wpList_store_blk _ rfl 23 (.tmp 9) (.tmp 21) rfl w6.heap.size 23 [.int .u8 0, .int .u8 0, .int .u8 0, .int .u8 0, .int .u8 0, .int .u8 0, .int .u8 0, .int .u8 0, .int .u8 0, .int .u8 0, .int .u8 0, .int .u8 0, .int .u8 0, .int .u8 0, .int .u8 0, .int .u8 0, .int .u8 0, .int .u8 0, .int .u8 0, .int .u8 0, .int .u8 0, .int .u8 0, .int .u8 0, .int .u8 0, .int .u8 0, .int .u8 0, .int .u8 0, .int .u8 0, .int .u8 0, .int .u8 0, .int .u8 0, .int .u8 0] (ofK .u8 x) (HY.out _) rfl rfl (H1.out _ H.out.2.2.2.2) (HI.out _ H.out.2.2.2.2) (one_ofK _ _) ?_; intro w7 hb7 hch7 hsz7; clear hsz7; have HF7 := Lib.hid (And.intro hb7 (fresh_ch hch7)); clear hb7 hch7)
      | (refine wpList_load_want rfl 23 (.tmp 7) rfl w4.heap.size 0 rfl (ofK .u8 x) _ (rangeAt_blk (HW6.out.2.2.2.below HF7.out.2 HW6.out.2.2.2.lt)) Try.underlying23 rfl (HI.out _ H.out.2.2.2.2) ?_)
      | (refine wpList_load_want rfl 23 (.tmp 9) rfl w6.heap.size 0 rfl (ofK .u8 x) _ (rangeAt_blk HF7.out.1) Try.underlying23 rfl (HI.out _ H.out.2.2.2.2) ?_))
    have HW7 := Lib.hid (And.intro (HW6.out.1.below HF7.out.2 HW6.out.1.lt) (And.intro (HW6.out.2.1.below HF7.out.2 HW6.out.2.1.lt) (below_thn HW6.out.2.2.1 HF7.out.2 (Nat.le_refl _))))
    clear HW6 HF7 heq HY H1
    refine wp_region_grew (by kernel_rfl) (by kernel_rfl) ?_
    repeat (first | go_big_quiet_skip | (go_big_quiet_want; (first | (refine quiet_load_mid 23 (.tmp 3) rfl w.heap.size 0 rfl (ofK .u8 av) _ (fun w' hw' => rangeAt_grew (rangeAt_blk HW7.out.1) w' hw') Try.underlying23 rfl (HI.out _ H.out.1) ?_; go_simp; go_big_quiet_on) | (refine quiet_load_mid 23 (.tmp 4) rfl (w.heap.size + 1) 0 rfl (ofK .u8 bv) _ (fun w' hw' => rangeAt_grew (rangeAt_blk HW7.out.2.1) w' hw') Try.underlying23 rfl (HI.out _ H.out.2.2.1) ?_; go_simp; go_big_quiet_on) | (go_big_quiet_op; (first | go_big_quiet_on | (apply Exists.intro; refine ⟨fun _ => ?_, ?_⟩; (focus (first | (go_at_call 27; with_reducible exact calls_grew (text_any av _ H.out.1 H.out.2.1)) | (go_at_call 28; with_reducible exact calls_grew (rtext_any av _ H.out.1 H.out.2.1)) | (go_at_call 29; first | (with_reducible exact calls_grew (less_any av bv _ H.out.1 H.out.2.2.1)) | (with_reducible exact calls_grew (less_any bv av _ H.out.2.2.1 H.out.1))) | (go_at_call 30; first | (with_reducible exact calls_grew (rless_any av bv _ H.out.1 H.out.2.2.1)) | (with_reducible exact calls_grew (rless_any bv av _ H.out.2.2.1 H.out.1))))); go_big_quiet_on))))))
    refine wpQuiet_nil ?_
    intro w8 hw8
    obtain ⟨p, rfl⟩ := hw8
    have HB8 := Lib.hid (below_thn HW7.out.2.2 (below_grew w7 p) (Nat.le_refl _))
    generalize grew w7 p = w8 at HB8 ⊢
    go_wp2_with fail
    go_ret
    exact ⟨rfl, HB8.out⟩

theorem shaDigits_walk (av bv : List Int) (s : ByteArray) (w : World) (ha : av.length = 32) (hab : AllB av) (hb : bv.length = 32) (hbb : AllB bv) {p : Prop} (_ : p) :
    Calls Try.prog 3 #[.agg (ofK .u8 av).toArray, .agg (ofK .u8 bv).toArray, .string s] w (TrueP w) := by
  obtain ⟨x, e1, h1, h2, h3⟩ := parse_what s
  exact shaDigits_go av bv s x e1 w ha hab hb hbb h1 h2 (by rcases h3 with ⟨a, _⟩ | ⟨a, _⟩ <;> simp [a])

end Go.Proofs.Ytkbhehnpgnilmaa
