/-
  The probe that each statement of layer 3 begins with answers true, and changes nothing that was there. Conditions: none.
-/
import Derived.Test.YtkbhehnpgnilmaaShaQ
import Derived.Test.YtkbhehnpgnilmaaShaL
import Derived.Test.YtkbhehnpgnilmaaShaT
import Derived.Test.YtkbhehnpgnilmaaShaU
import Derived.Test.YtkbhehnpgnilmaaShaV
import Derived.Test.YtkbhehnpgnilmaaFrame
import Derived.Lib.SlBytesConst
namespace Go.Proofs.Ytkbhehnpgnilmaa
open Go Go.RowKit

def abcL : List Int := [186, 120, 22, 191, 143, 1, 207, 234, 65, 65, 64, 222, 93, 174, 34, 35, 176, 3, 97, 163, 150, 23, 122, 156, 180, 16, 255, 97, 242, 0, 21, 173]
def abcT : ByteArray := { data := #[98, 97, 55, 56, 49, 54, 98, 102, 56, 102, 48, 49, 99, 102, 101, 97, 52, 49, 52, 49, 52, 48, 100, 101, 53, 100, 97, 101, 50, 50, 50, 51, 98, 48, 48, 51, 54, 49, 97, 51, 57, 54, 49, 55, 55, 97, 57, 99, 98, 52, 49, 48, 102, 102, 54, 49, 102, 50, 48, 48, 49, 53, 97, 100] }

theorem sl_mark (w : World) (k : IntKind) (bs : List Int) (e : TypeId) (C : Array Value) (fr : Nat × Nat) (n : Nat) (hC : C = (ofK k bs).toArray) (hn : n = bs.length) (hm : n ≤ 65536) : Sl (w.alloc (.cells C e fr)) (.slice (some ⟨w.heap.size, 0, none⟩) n n) (ofK k bs) := by
  subst hC hn
  refine .inr ⟨⟨w.heap.size, 0, none⟩, bs.length, by rw [length_ofK], by rw [length_ofK]; exact Nat.le_refl _, by unfold maxLen; omega, fun i u hu => ?_⟩
  rw [Addr.add_mid, Nat.zero_add, cell_of_row _ _ _ _ _ _ (heap_alloc_new w _)]
  simpa using hu

theorem text_abc (w : World) : Calls Try.prog 27 #[.agg (ofK .u8 abcL).toArray] w (fun e w' => e = .returned (.string abcT) ∧ Below w.heap.size w w') := by
  refine (text_any abcL w rfl (allB_of (by decide))).mono ?_
  rintro e w' ⟨rfl, h⟩
  exact ⟨by rw [show toB (textL abcL) = abcT from by kernel_rfl], h⟩

theorem sum_abc_of (v : Value) (w : World) (hs : Sl w v (ofK .u8 [97, 98, 99])) : Calls Try.prog 32 #[v] w (fun e w' => e = .returned (.agg (ofK .u8 abcL).toArray) ∧ Below w.heap.size w w') := by
  have := sum_any v [97, 98, 99] w hs (by decide) (allB_of (by decide))
  rwa [sum_abc] at this

theorem parse_ab (Zl : List Int) (hZl : Zl = List.replicate 32 0) (w : World) : Calls Try.prog 25 #[.string { data := #[97, 98] }] w (fun e w' => e = .returned (.tuple #[.agg (ofK .u8 Zl).toArray, .int .i64 130]) ∧ Below w.heap.size w w') :=
  parse_of { data := #[97, 98] } Zl 130 w (by rw [hZl]; kernel_rfl)

theorem less_of (xs ys : List Int) (b : Bool) (w : World) (h1 : xs.length = 32) (h2 : ys.length = 32) (hb : lessL xs ys = b) :
    Calls Try.prog 29 #[.agg (ofK .u8 xs).toArray, .agg (ofK .u8 ys).toArray] w (fun e w' => e = .returned (.bool b) ∧ Below w.heap.size w w') := by
  have := less_any xs ys w h1 h2
  rwa [hb] at this

theorem less_01 (w : World) : Calls Try.prog 29 #[.agg #[.int .u8 0, .int .u8 0, .int .u8 0, .int .u8 0, .int .u8 0, .int .u8 0, .int .u8 0, .int .u8 0, .int .u8 0, .int .u8 0, .int .u8 0, .int .u8 0, .int .u8 0, .int .u8 0, .int .u8 0, .int .u8 0, .int .u8 0, .int .u8 0, .int .u8 0, .int .u8 0, .int .u8 0, .int .u8 0, .int .u8 0, .int .u8 0, .int .u8 0, .int .u8 0, .int .u8 0, .int .u8 0, .int .u8 0, .int .u8 0, .int .u8 0, .int .u8 0], .agg #[.int .u8 0, .int .u8 1, .int .u8 0, .int .u8 0, .int .u8 0, .int .u8 0, .int .u8 0, .int .u8 0, .int .u8 0, .int .u8 0, .int .u8 0, .int .u8 0, .int .u8 0, .int .u8 0, .int .u8 0, .int .u8 0, .int .u8 0, .int .u8 0, .int .u8 0, .int .u8 0, .int .u8 0, .int .u8 0, .int .u8 0, .int .u8 0, .int .u8 0, .int .u8 0, .int .u8 0, .int .u8 0, .int .u8 0, .int .u8 0, .int .u8 0, .int .u8 0]] w (fun e w' => e = .returned (.bool true) ∧ Below w.heap.size w w') :=
  less_of [0, 0, 0, 0, 0, 0, 0, 0, 0, 0, 0, 0, 0, 0, 0, 0, 0, 0, 0, 0, 0, 0, 0, 0, 0, 0, 0, 0, 0, 0, 0, 0] [0, 1, 0, 0, 0, 0, 0, 0, 0, 0, 0, 0, 0, 0, 0, 0, 0, 0, 0, 0, 0, 0, 0, 0, 0, 0, 0, 0, 0, 0, 0, 0] true w rfl rfl (by decide)

theorem less_00 (w : World) : Calls Try.prog 29 #[.agg #[.int .u8 0, .int .u8 0, .int .u8 0, .int .u8 0, .int .u8 0, .int .u8 0, .int .u8 0, .int .u8 0, .int .u8 0, .int .u8 0, .int .u8 0, .int .u8 0, .int .u8 0, .int .u8 0, .int .u8 0, .int .u8 0, .int .u8 0, .int .u8 0, .int .u8 0, .int .u8 0, .int .u8 0, .int .u8 0, .int .u8 0, .int .u8 0, .int .u8 0, .int .u8 0, .int .u8 0, .int .u8 0, .int .u8 0, .int .u8 0, .int .u8 0, .int .u8 0], .agg #[.int .u8 0, .int .u8 0, .int .u8 0, .int .u8 0, .int .u8 0, .int .u8 0, .int .u8 0, .int .u8 0, .int .u8 0, .int .u8 0, .int .u8 0, .int .u8 0, .int .u8 0, .int .u8 0, .int .u8 0, .int .u8 0, .int .u8 0, .int .u8 0, .int .u8 0, .int .u8 0, .int .u8 0, .int .u8 0, .int .u8 0, .int .u8 0, .int .u8 0, .int .u8 0, .int .u8 0, .int .u8 0, .int .u8 0, .int .u8 0, .int .u8 0, .int .u8 0]] w (fun e w' => e = .returned (.bool false) ∧ Below w.heap.size w w') :=
  less_of [0, 0, 0, 0, 0, 0, 0, 0, 0, 0, 0, 0, 0, 0, 0, 0, 0, 0, 0, 0, 0, 0, 0, 0, 0, 0, 0, 0, 0, 0, 0, 0] [0, 0, 0, 0, 0, 0, 0, 0, 0, 0, 0, 0, 0, 0, 0, 0, 0, 0, 0, 0, 0, 0, 0, 0, 0, 0, 0, 0, 0, 0, 0, 0] false w rfl rfl (by decide)

theorem pad_56 (v : Value) (w : World) (Z : List Value) (hZ : Z = List.replicate 56 (Value.int .u8 0)) (hs : Sl w v Z) : Calls Try.prog 33 #[v] w (fun e w' => ∃ ao c, e = .returned (.slice ao 128 c) ∧ Below w.heap.size w w') := by
  have hs2 : Sl w v (ofK .u8 (List.replicate 56 0)) := by rw [hZ, show List.replicate 56 (Value.int .u8 0) = ofK .u8 (List.replicate 56 0) by simp [ofK]] at hs; exact hs
  refine (pad_any v _ w hs2 (by decide)).mono ?_
  rintro e w' ⟨ao, c, n, rfl, hn, -, hb⟩
  rw [padL_length, List.length_replicate] at hn
  obtain rfl : n = 128 := hn
  exact ⟨ao, c, rfl, hb⟩

set_option maxRecDepth 100000 in
set_option maxHeartbeats 1000000 in
theorem wakes3_any (w : World) : Calls Try.prog 24 #[] w (TrueP w) := by
  obtain ⟨i0, hi, hz0, hz1, hz2⟩ := info_parts Try.info5
  have hmk := fun w => run_make_rep (P := Try.prog) 33 5 i0 (.int .u8 0) Try.underlying33 hi hz0 hz1 rfl .i64 .i64 56 56 56 56 rfl rfl (by decide) (by rw [hz2]; decide) (by decide) w
  obtain ⟨Z, hZ⟩ : ∃ Z, Z = List.replicate 56 (Value.int .u8 0) := ⟨_, rfl⟩
  rw [← hZ] at hmk
  have HZ := Lib.hid hZ
  clear hZ
  have kc := fun (w : World) (C : Array Value) (n c : Nat) => Lib.run_convert_bytes_const (P := Try.prog) w 33 5 C n c Try.underlying33 Try.underlying5
  go_enter Try.func24, Try.ntmps24
  go_wp2_with fail
  refine (sum_abc_of _ _ (sl_mark _ _ _ _ _ _ 3 rfl rfl (by omega))).mono ?_
  rintro e w1 ⟨rfl, hbel⟩
  have B1 := Lib.hid (below_thn ((Below.refl _ w).alloc (Nat.le_refl _) _) hbel (Nat.le_refl _))
  clear hbel
  go_wp2_with fail
  refine (text_abc _).mono ?_
  rintro e w2 ⟨rfl, hbel⟩
  have B2 := Lib.hid (below_thn B1.out hbel (Nat.le_refl _))
  clear hbel B1
  have hne : (abcT.toList == [98, 97, 55, 56, 49, 54, 98, 102, 56, 102, 48, 49, 99, 102, 101, 97, 52, 49, 52, 49, 52, 48, 100, 101, 53, 100, 97, 101, 50, 50, 50, 51, 98, 48, 48, 51, 54, 49, 97, 51, 57, 54, 49, 55, 55, 97, 57, 99, 98, 52, 49, 48, 102, 102, 54, 49, 102, 50, 48, 48, 49, 53, 97, 100]) = true := by kernel_rfl
  go_wp2_with fail
  obtain ⟨Zl, hZl⟩ : ∃ Zl : List Int, Zl = List.replicate 32 0 := ⟨_, rfl⟩
  have HL := Lib.hid hZl
  clear hZl
  refine (parse_ab Zl HL.out _).mono ?_
  rintro e w3 ⟨rfl, hbel⟩
  have B3 := Lib.hid (below_thn B2.out hbel (Nat.le_refl _))
  have HY := Lib.hid (Blk.new w3 [.int .u8 0, .int .u8 0, .int .u8 0, .int .u8 0, .int .u8 0, .int .u8 0, .int .u8 0, .int .u8 0, .int .u8 0, .int .u8 0, .int .u8 0, .int .u8 0, .int .u8 0, .int .u8 0, .int .u8 0, .int .u8 0, .int .u8 0, .int .u8 0, .int .u8 0, .int .u8 0, .int .u8 0, .int .u8 0, .int .u8 0, .int .u8 0, .int .u8 0, .int .u8 0, .int .u8 0, .int .u8 0, .int .u8 0, .int .u8 0, .int .u8 0, .int .u8 0] 23)
  have H1 := Lib.hid (show (ofK .u8 Zl).length = ([.int .u8 0, .int .u8 0, .int .u8 0, .int .u8 0, .int .u8 0, .int .u8 0, .int .u8 0, .int .u8 0, .int .u8 0, .int .u8 0, .int .u8 0, .int .u8 0, .int .u8 0, .int .u8 0, .int .u8 0, .int .u8 0, .int .u8 0, .int .u8 0, .int .u8 0, .int .u8 0, .int .u8 0, .int .u8 0, .int .u8 0, .int .u8 0, .int .u8 0, .int .u8 0, .int .u8 0, .int .u8 0, .int .u8 0, .int .u8 0, .int .u8 0, .int .u8 0] : List Value).length by rw [length_ofK, HL.out]; rfl)
  have H2 := Lib.hid (show (Try.prog.info? 23).map (·.size) = some (ofK .u8 Zl).length by rw [length_ofK, HL.out, List.length_replicate]; kernel_rfl)
  clear hbel B2 hne
  go_wp2_with (with_reducible refine wpList_store_blk _ rfl 23 (.tmp 1) (.tmp 10) rfl w3.heap.size 23 [.int .u8 0, .int .u8 0, .int .u8 0, .int .u8 0, .int .u8 0, .int .u8 0, .int .u8 0, .int .u8 0, .int .u8 0, .int .u8 0, .int .u8 0, .int .u8 0, .int .u8 0, .int .u8 0, .int .u8 0, .int .u8 0, .int .u8 0, .int .u8 0, .int .u8 0, .int .u8 0, .int .u8 0, .int .u8 0, .int .u8 0, .int .u8 0, .int .u8 0, .int .u8 0, .int .u8 0, .int .u8 0, .int .u8 0, .int .u8 0, .int .u8 0, .int .u8 0] (ofK .u8 Zl) HY.out rfl rfl H1.out H2.out (one_ofK _ _) ?_; intro w4 hb4 hch4 hsz4; clear hsz4)
  have B4 := Lib.hid (below_ch (B3.out.alloc B3.out.size (.cells #[.int .u8 0, .int .u8 0, .int .u8 0, .int .u8 0, .int .u8 0, .int .u8 0, .int .u8 0, .int .u8 0, .int .u8 0, .int .u8 0, .int .u8 0, .int .u8 0, .int .u8 0, .int .u8 0, .int .u8 0, .int .u8 0, .int .u8 0, .int .u8 0, .int .u8 0, .int .u8 0, .int .u8 0, .int .u8 0, .int .u8 0, .int .u8 0, .int .u8 0, .int .u8 0, .int .u8 0, .int .u8 0, .int .u8 0, .int .u8 0, .int .u8 0, .int .u8 0] 23)) hch4 (Nat.le_refl _) (fun k h => by have h2 : k = w3.heap.size := h; have := B3.out.size; omega))
  have HS := Lib.hid (show Sl (w4.alloc (.cells Z.toArray 5)) (.slice (some ⟨w4.heap.size, 0, none⟩) 56 56) Z by
    have h := (Blk.new w4 Z 5).sl 0 56 56 (by rw [HZ.out, List.length_replicate]; omega) (Nat.le_refl _) (by unfold maxLen; omega)
    rw [List.drop_zero, List.take_of_length_le (by rw [HZ.out, List.length_replicate]; omega)] at h
    exact h)
  have B5 := Lib.hid (show Below w.heap.size w (w4.alloc (.cells Z.toArray 5)) from (B4.out.alloc B4.out.size _))
  clear hb4 hch4 HY H1 H2
  refine (pad_56 _ _ Z HZ.out HS.out).mono ?_
  rintro e w5 ⟨ao, c, rfl, hbel⟩
  have B6 := Lib.hid (below_thn B5.out hbel (Nat.le_refl _))
  clear hbel B5 B4 B3 HS hmk
  go_wp2_with fail
  refine (less_01 _).mono ?_
  rintro e w6 ⟨rfl, hbel⟩
  have B7 := Lib.hid (below_thn B6.out hbel (Nat.le_refl _))
  clear hbel B6
  go_wp2_with fail
  refine (less_00 _).mono ?_
  rintro e w7 ⟨rfl, hbel⟩
  have B8 := Lib.hid (below_thn B7.out hbel (Nat.le_refl _))
  clear hbel B7
  go_wp2_with fail
  go_ret
  exact ⟨rfl, B8.out⟩

end Go.Proofs.Ytkbhehnpgnilmaa
