/-
  wakes, walked. Conditions: none.
-/
import Derived.Test.YticcjaccpcnjhaaDkQ
namespace Go.Proofs.Yticcjaccpcnjhaa
open Go Go.RowKit

theorem sl_bools (w : World) (bs : List Bool) (e : TypeId) (n : Nat) (hn : n = bs.length) (hm : n ≤ 65536) : Sl (w.alloc (.cells (bs.map Value.bool).toArray e)) (.slice (some ⟨w.heap.size, 0, none⟩) n n) (bs.map Value.bool) := by
  subst hn
  have := (Blk.new w (bs.map Value.bool) e).sl 0 bs.length bs.length (by simp) (Nat.le_refl _) (by unfold maxLen; omega)
  rw [List.drop_zero, List.take_of_length_le (by simp)] at this
  exact this
theorem eq_zero (w : World) : (Op.equalIn 10000 39 (.agg (ofK .u8 zer).toArray) (.agg #[Value.int IntKind.u8 0, Value.int IntKind.u8 0, Value.int IntKind.u8 0, Value.int IntKind.u8 0, Value.int IntKind.u8 0, Value.int IntKind.u8 0, Value.int IntKind.u8 0, Value.int IntKind.u8 0, Value.int IntKind.u8 0, Value.int IntKind.u8 0, Value.int IntKind.u8 0, Value.int IntKind.u8 0, Value.int IntKind.u8 0, Value.int IntKind.u8 0, Value.int IntKind.u8 0, Value.int IntKind.u8 0, Value.int IntKind.u8 0, Value.int IntKind.u8 0, Value.int IntKind.u8 0, Value.int IntKind.u8 0, Value.int IntKind.u8 0, Value.int IntKind.u8 0, Value.int IntKind.u8 0, Value.int IntKind.u8 0, Value.int IntKind.u8 0, Value.int IntKind.u8 0, Value.int IntKind.u8 0, Value.int IntKind.u8 0, Value.int IntKind.u8 0, Value.int IntKind.u8 0, Value.int IntKind.u8 0, Value.int IntKind.u8 0, Value.int IntKind.u8 0, Value.int IntKind.u8 0, Value.int IntKind.u8 0, Value.int IntKind.u8 0, Value.int IntKind.u8 0, Value.int IntKind.u8 0, Value.int IntKind.u8 0, Value.int IntKind.u8 0, Value.int IntKind.u8 0, Value.int IntKind.u8 0, Value.int IntKind.u8 0, Value.int IntKind.u8 0, Value.int IntKind.u8 0, Value.int IntKind.u8 0, Value.int IntKind.u8 0, Value.int IntKind.u8 0, Value.int IntKind.u8 0, Value.int IntKind.u8 0, Value.int IntKind.u8 0, Value.int IntKind.u8 0, Value.int IntKind.u8 0, Value.int IntKind.u8 0, Value.int IntKind.u8 0, Value.int IntKind.u8 0, Value.int IntKind.u8 0, Value.int IntKind.u8 0, Value.int IntKind.u8 0, Value.int IntKind.u8 0, Value.int IntKind.u8 0, Value.int IntKind.u8 0, Value.int IntKind.u8 0, Value.int IntKind.u8 0])).run Try.prog w = .ok true w :=
  eq_blocks w zer zer true isB_zer isB_zer (decide_eq_true rfl)

set_option maxRecDepth 100000 in
set_option maxHeartbeats 4000000 in
theorem wakes_any (w : World) : Calls Try.prog 10 #[] w (fun e w' => e = .returned (.bool true) ∧ Below w.heap.size w w') := by
  have HI7 := Lib.hid (infoB f7)
  have HI8 := Lib.hid (infoB f8)
  have HIz := Lib.hid (infoB isB_zer)
  have HL7 := Lib.hid (len_B f7 isB_zer)
  have HL8 := Lib.hid (len_B f8 isB_zer)
  have HE1 := Lib.hid (fun w => eq_blocks w (fil 7) (fil 7) true f7 f7 (decide_eq_true rfl))
  have HE2 := Lib.hid eq_zero
  go_enter Try.func10, Try.ntmps10
  go_wp2_with fail
  refine (new_ok 3 w (by omega) (by omega)).mono ?_
  rintro e w1 ⟨p, rfl, hd1, hb1⟩
  have H1 := Lib.hid (And.intro hd1 hb1)
  clear hd1 hb1
  go_wp2_with fail
  refine (len_at p _ _ 3 _ H1.out.1 rfl).mono ?_
  rintro e w' ⟨rfl, rfl⟩
  go_wp2_with fail
  refine (filled_any 7 _ (by omega) (by omega)).mono ?_
  rintro e w2 ⟨rfl, hb2⟩
  have HB2 := Lib.hid hb2
  clear hb2
  go_wp2_with fail
  refine (filled_any 8 _ (by omega) (by omega)).mono ?_
  rintro e w3 ⟨rfl, hb3⟩
  have HB3 := Lib.hid (below_thn HB2.out hb3 (Nat.le_refl _))
  clear hb3 HB2
  go_wp2_with (first
    | ((with_reducible refine wpList_alloc_blk w3 rfl 39 rfl (ofK .u8 zer) Try.zeroBl ?_); intro w4 hb4 hbel4 hsz4; have HB4 := Lib.hid (And.intro hb4 (And.intro hbel4 hsz4)); clear hb4 hbel4 hsz4)
    | ((with_reducible refine wpList_alloc_blk w4 rfl 39 rfl (ofK .u8 zer) Try.zeroBl ?_); intro w5 hb5 hbel5 hsz5; have HB5 := Lib.hid (And.intro hb5 (And.intro hbel5 (And.intro hsz5 (HB4.out.1.below hbel5 HB4.out.1.lt)))); clear hb5 hbel5 hsz5)
    | ((with_reducible refine wpList_store_blk w5 rfl 39 (.tmp 3) (.tmp 23) rfl w3.heap.size 39 (ofK .u8 zer) (ofK .u8 (fil 7)) HB5.out.2.2.2 rfl rfl HL7.out HI7.out (one_ofK _ _) ?_); intro w6 hb6 hc6 hs6; have HB6 := Lib.hid (And.intro hb6 (And.intro hc6 (HB5.out.1.keep hc6 (fun (e : w4.heap.size = w3.heap.size) => by have := HB4.out.2.2; omega)))); clear hb6 hc6 hs6)
    | ((with_reducible refine wpList_store_blk w6 rfl 39 (.tmp 4) (.tmp 24) rfl w4.heap.size 39 (ofK .u8 zer) (ofK .u8 (fil 8)) HB6.out.2.2 rfl rfl HL8.out HI8.out (one_ofK _ _) ?_); intro w7 hb7 hc7 hs7; have HB7 := Lib.hid (And.intro hb7 (And.intro hc7 (HB6.out.1.keep hc7 (fun (e : w3.heap.size = w4.heap.size) => by have := HB4.out.2.2; omega)))); clear hb7 hc7 hs7; have HR7 := Lib.hid (rangeW_blk HB7.out.2.2))
    | (with_reducible refine wpList_load_any rfl 39 (.tmp 3) rfl w3.heap.size 0 rfl (ofK .u8 (fil 7)) _ HR7.out Try.underlying39 rfl HI7.out ?_))
  have hb17 : Below w1.heap.size w1 w7 := below_ch (below_ch (below_thn (below_thn HB3.out HB4.out.2.1 (Nat.le_refl _)) HB5.out.2.1 (Nat.le_refl _)) HB6.out.2.1 (Nat.le_refl _) (fun k hk => by have : k = w3.heap.size := hk; have := HB3.out.size; omega)) HB7.out.2.1 (Nat.le_refl _) (fun k hk => by have : k = w4.heap.size := hk; have := HB3.out.size; have := HB4.out.2.2; omega)
  have hW : WK w w7 p (fun k => w.heap.size ≤ k ∧ k < w1.heap.size) wD0 w3.heap.size w4.heap.size :=
    ⟨H1.out.1.keep (Ch.of_below (S := fun _ => False) hb17 (Nat.le_refl _)) (fun _ _ h => h), HB7.out.2.2, HB7.out.1, fun h => by have := h.2; have := HB3.out.size; omega, fun h => by have := h.2; have := HB3.out.size; have := HB4.out.2.2; omega, below_thn H1.out.2 hb17 (Nat.le_refl _), fun k hk => hk.1⟩
  have HW7 := Lib.hid hW
  clear hb17 hW HB3 HB4 HB5 HB6 HB7 HR7 H1
  generalize w3.heap.size = bx at *
  generalize w4.heap.size = b2 at *
  generalize (fun k => w.heap.size ≤ k ∧ k < w1.heap.size) = S1 at *
  refine (write_at p _ wD0 wD1 2 (fil 7) 0 9 _ HW7.out.d wK0 (by omega) f7 rfl wE1).mono ?_
  rintro e w8 ⟨rfl, hd8, hc8⟩
  have HW8 := Lib.hid (HW7.out.step hd8 hc8)
  have HR8 := Lib.hid (rangeW_blk HW8.out.y)
  clear hd8 hc8 HW7
  go_wp2_with (with_reducible refine wpList_load_any rfl 39 (.tmp 4) rfl b2 0 rfl (ofK .u8 (fil 8)) _ HR8.out Try.underlying39 rfl HI8.out ?_)
  refine (write_at p _ wD1 wD2 0 (fil 8) 0 10 _ HW8.out.d wK1 (by omega) f8 rfl wE2).mono ?_
  rintro e w9 ⟨rfl, hd9, hc9⟩
  have HW9 := Lib.hid (HW8.out.step hd9 hc9)
  have HR9 := Lib.hid (rangeW_blk HW9.out.y)
  clear hd9 hc9 HW8 HR8
  go_wp2_with (with_reducible refine wpList_load_any rfl 39 (.tmp 4) rfl b2 0 rfl (ofK .u8 (fil 8)) _ HR9.out Try.underlying39 rfl HI8.out ?_)
  refine (write_at p _ wD2 wD3 2 (fil 8) 0 11 _ HW9.out.d wK2 (by omega) f8 rfl wE3).mono ?_
  rintro e w10 ⟨rfl, hd10, hc10⟩
  have HW10 := Lib.hid (HW9.out.step hd10 hc10)
  clear hd10 hc10 HW9 HR9
  generalize (Gr (Gr (Gr S1 w7 w8) w8 w9) w9 w10) = S2 at *
  go_wp2_with fail
  refine (pending_any p S2 wD3 12 3 w10 HW10.out.d wK3 (by omega) wL3.symm).mono ?_
  rintro e w11 ⟨v, rfl, hown11, hb11⟩
  rw [wP3] at hown11
  obtain ⟨vo, vc, rfl⟩ := own_shape hown11
  have HW11 := Lib.hid (And.intro (HW10.out.below hb11) (Sl.of_owns hown11))
  clear hown11 hb11 HW10
  go_wp2_with fail
  have hbn : Below w11.heap.size w11 (w11.alloc (.cells #[.int .i64 2, .int .i64 0, .int .i64 2] 3)) := (Below.refl _ _).alloc (Nat.le_refl _) _
  have HW12 := Lib.hid (And.intro (HW11.out.1.below hbn) (And.intro (HW11.out.2.below hbn (Nat.le_refl _)) (sl_new w11 .i64 [2, 0, 2] 3 #[.int .i64 2, .int .i64 0, .int .i64 2] 3 rfl rfl (by omega))))
  clear hbn HW11
  refine (equalInts _ _ [2, 0, 2] [2, 0, 2] true _ HW12.out.2.1 HW12.out.2.2 rfl).mono ?_
  rintro e w13 ⟨rfl, hsm⟩
  have HW13 := Lib.hid ((HW12.out.1).below (hsm.below _))
  clear hsm HW12
  go_wp2_with fail
  have hbn : Below w13.heap.size w13 (w13.alloc (.cells #[.bool true] 4)) := (Below.refl _ _).alloc (Nat.le_refl _) _
  have HW14 := Lib.hid (And.intro (HW13.out.below hbn) (sl_bools w13 [true] 4 1 rfl (by omega)))
  have HV := Lib.hid (show ∀ k, (Value.slice (some ⟨w13.heap.size, 0, none⟩) 1 1).ownBlock = some k → ¬ S2 k from fun k hk hs => by cases hk; have := HW13.out.d.bd _ hs; exact Nat.lt_irrefl _ this)
  clear hbn HW13
  refine (crash_at p S2 wD3 wD4 _ 1 1 [true] 12 _ HW14.out.1.d wK3 (by omega) HW14.out.2 HV.out rfl).mono ?_
  rintro e w15 ⟨rfl, hd15, hc15⟩
  have HW15 := Lib.hid (HW14.out.1.step hd15 hc15)
  clear hd15 hc15 HW14 HV
  generalize (Gr S2 (w13.alloc (.cells #[.bool true] 4)) w15) = S3 at *
  go_wp2_with fail
  refine (arm_at p S3 wD4 wD5 0 0 _ HW15.out.d rfl wE5).mono ?_
  rintro e w16 ⟨rfl, hd16, hc16⟩
  have HW16 := Lib.hid (HW15.out.step hd16 hc16)
  clear hd16 hc16 HW15
  generalize (Gr S3 w15 w16) = S4 at *
  go_wp2_with fail
  refine (sync_at p S4 wD5 wD6 9 12 _ HW16.out.d wK5 (by omega) rfl wE6).mono ?_
  rintro e w17 ⟨rfl, hd17, hc17⟩
  have HW17 := Lib.hid (HW16.out.step hd17 hc17)
  clear hd17 hc17 HW16
  generalize (Gr S4 w16 w17) = S5 at *
  go_wp2_with fail
  refine (dead_at p S5 wD6 true _ HW17.out.d wO6).mono ?_
  rintro e w' ⟨rfl, rfl⟩
  go_wp2_with fail
  refine (crash_at p S5 wD6 wD7 none 0 0 [] 13 _ HW17.out.d wK6 (by omega) (Sl.nil _) (fun k hk => by simp [Value.ownBlock] at hk) rfl).mono ?_
  rintro e w18 ⟨rfl, hd18, hc18⟩
  have HW18 := Lib.hid (HW17.out.step hd18 hc18)
  clear hd18 hc18 HW17
  generalize (Gr S5 w17 w18) = S6 at *
  go_wp2_with fail
  refine (read_at p S6 wD7 wD8 2 (fil 7) 0 13 _ HW18.out.d wK7 (by omega) rfl wE8 wB8).mono ?_
  rintro e w19 ⟨rfl, hd19, hc19⟩
  have HW19 := Lib.hid (HW18.out.step hd19 hc19)
  clear hd19 hc19 HW18
  generalize (Gr S6 w18 w19) = S7 at *
  go_wp2_with (first
    | ((with_reducible refine wpList_alloc_blk w19 rfl 39 rfl (ofK .u8 zer) Try.zeroBl ?_); intro w20 hb20 hbel20 hsz20; have HB20 := Lib.hid (And.intro hb20 hbel20); clear hb20 hbel20 hsz20)
    | ((with_reducible refine wpList_store_blk w20 rfl 39 (.tmp 5) (.tmp 75) rfl w19.heap.size 39 (ofK .u8 zer) (ofK .u8 (fil 7)) HB20.out.1 rfl rfl HL7.out HI7.out (one_ofK _ _) ?_); intro w21 hb21 hc21 hs21; have HB21 := Lib.hid (And.intro hb21 (show Below w19.heap.size w19 w21 from below_ch HB20.out.2 hc21 (Nat.le_refl _) (fun k hk => by have : k = w19.heap.size := hk; omega))); clear hb21 hc21 hs21))
  have HW21 := Lib.hid (And.intro (HW19.out.below HB21.out.2) (And.intro HB21.out.1 (show ¬ S7 w19.heap.size from fun hs => Nat.lt_irrefl _ (HW19.out.d.bd _ hs))))
  clear HB20 HB21 HW19
  generalize w19.heap.size = ba at *
  refine (read_at p S7 wD8 wD9 0 zer 0 14 _ HW21.out.1.d wK8 (by omega) rfl wE9 wB9).mono ?_
  rintro e w22 ⟨rfl, hd22, hc22⟩
  have HW22 := Lib.hid (And.intro (HW21.out.1.step hd22 hc22) (HW21.out.2.1.keep hc22 HW21.out.2.2))
  clear hd22 hc22 HW21
  generalize (Gr S7 w21 w22) = S8 at *
  go_wp2_with (first
    | ((with_reducible refine wpList_alloc_blk w22 rfl 39 rfl (ofK .u8 zer) Try.zeroBl ?_); intro w23 hb23 hbel23 hsz23; have HB23 := Lib.hid (And.intro hb23 hbel23); clear hb23 hbel23 hsz23)
    | ((with_reducible refine wpList_store_blk w23 rfl 39 (.tmp 6) (.tmp 80) rfl w22.heap.size 39 (ofK .u8 zer) (ofK .u8 zer) HB23.out.1 rfl rfl rfl HIz.out (one_ofK _ _) ?_); intro w24 hb24 hc24 hs24; have HB24 := Lib.hid (And.intro hb24 (show Below w22.heap.size w22 w24 from below_ch HB23.out.2 hc24 (Nat.le_refl _) (fun k hk => by have : k = w22.heap.size := hk; omega))); have HRa := Lib.hid (rangeW_blk (HW22.out.2.below HB24.out.2 HW22.out.2.lt)); have HRx := Lib.hid (rangeW_blk (HW22.out.1.below HB24.out.2).x); have HRb := Lib.hid (rangeW_blk HB24.out.1); clear hb24 hc24 hs24; have he1 := HE1.out; have he2 := HE2.out)
    | (with_reducible refine wpList_load_any rfl 39 (.tmp 5) rfl ba 0 rfl (ofK .u8 (fil 7)) _ HRa.out Try.underlying39 rfl HI7.out ?_)
    | (with_reducible refine wpList_load_any rfl 39 (.tmp 3) rfl bx 0 rfl (ofK .u8 (fil 7)) _ HRx.out Try.underlying39 rfl HI7.out ?_)
    | (with_reducible refine wpList_load_any rfl 39 (.tmp 6) rfl w22.heap.size 0 rfl (ofK .u8 zer) _ HRb.out Try.underlying39 rfl HIz.out ?_)
    | (with_reducible refine wpList_build_want rfl 39 #[] rfl #[] rfl (.agg (ofK .u8 zer).toArray) Try.buildZ ?_)
    | (go_at_call 27; refine (ops_at p S8 wD9 5 _ (HW22.out.1.below HB24.out.2).d wO9).mono ?_; rintro e w' ⟨rfl, rfl⟩))
  go_ret
  exact ⟨rfl, (HW22.out.1.below HB24.out.2).b⟩

end Go.Proofs.Yticcjaccpcnjhaa
