/-
  ShaChains, walked. Conditions: bytes.
-/
import Derived.Test.YtkbhehnpgnilmaaShaY
import Derived.Test.YtkbhehnpgnilmaaShaX
namespace Go.Proofs.Ytkbhehnpgnilmaa
open Go Go.RowKit

theorem or_add32 (A B : Int) (k : Nat) (u : Int) (hA : A = 2 ^ k * u) (h0 : 0 ≤ u) (h1 : 0 ≤ B ∧ B < 2 ^ k) (hl : A + B < 4294967296) : bits BinOp.or IntKind.u32 A B = A + B := by
  obtain ⟨u', rfl⟩ := Int.eq_ofNat_of_zero_le h0
  obtain ⟨b', rfl⟩ := Int.eq_ofNat_of_zero_le h1.1
  have hb : b' < 2 ^ k := by
    have := h1.2
    exact_mod_cast this
  have e : A = ((2 ^ k * u' : Nat) : Int) := by rw [hA]; push_cast; rfl
  rw [e] at hl ⊢
  rw [bits_or32 _ _ (by omega) (by omega), ← Nat.two_pow_add_eq_or_of_lt hb]
  push_cast
  rfl

theorem bytesN_get (hs : List Nat) (k j : Nat) (hk : k < hs.length) (hj : j < 4) : (bytesN hs).getD (4 * k + j) 0 = beAt ((hs.getD k 0 : Nat) : Int) 4 j := by
  induction hs generalizing k with
  | nil => simp at hk
  | cons x xs ih =>
    have e : bytesN (x :: xs) = beAt (x : Int) 4 0 :: beAt (x : Int) 4 1 :: beAt (x : Int) 4 2 :: beAt (x : Int) 4 3 :: bytesN xs := rfl
    rw [e]
    cases k with
    | zero =>
      have : j = 0 ∨ j = 1 ∨ j = 2 ∨ j = 3 := by omega
      rcases this with rfl | rfl | rfl | rfl <;> rfl
    | succ k =>
      have := ih k (by simpa using hk)
      rw [show 4 * (k + 1) + j = 4 * k + j + 1 + 1 + 1 + 1 by omega]
      simpa using this

set_option maxRecDepth 100000 in
set_option maxHeartbeats 2000000 in
theorem chains_go (v1 : Value) (us xs : List Int) (nx m : Nat) (w : World) (h1 : Sl w v1 (ofK .u8 us)) (ha : AllB us) (hxs : xs = us.take 700) (hnx : nx = xs.length) (hm : m = (padL xs).length / 64) :
    Calls Try.prog 7 #[v1] w (TrueP w) := by
  have hax : AllB xs := fun c hc => ha c (by rw [hxs] at hc; exact List.mem_of_mem_take hc)
  have hlx : xs.length ≤ 700 := by rw [hxs, List.length_take]; omega
  have hpm := padL_mod xs
  have hpl := padL_length xs
  have hnp : (padL xs).length = 64 * m := by omega
  have hm1 : 64 * m ≤ 772 := by omega
  have hm2 : nx + 9 ≤ 64 * m := by omega
  have hm3 : 64 * m ≤ nx + 72 := by omega
  have hm0 : 1 ≤ m := by omega
  have H := Lib.hid (And.intro hax (And.intro hlx (And.intro hnx (And.intro hxs (And.intro hm hnp)))))
  have HV := Lib.hid h1
  obtain ⟨ao1, c1, rfl, -⟩ := h1.nums
  obtain ⟨S0, hS0⟩ : ∃ S0, S0 = H8 := ⟨_, rfl⟩
  have HS := Lib.hid (And.intro hS0 (show S0.length = 8 by rw [hS0]; rfl))
  clear h1 ha hxs hax hlx hpm hpl hnp hm hS0
  go_enter Try.func7, Try.ntmps7
  go_wp2_with fail
  refine (wakes3_any _).mono ?_
  rintro e w2 ⟨rfl, hbel⟩
  have HW2 := Lib.hid (And.intro (HV.out.below hbel (Nat.le_refl _)) hbel)
  clear hbel HV
  go_wp2_with fail
  refine (row3_any _ us nx _ HW2.out.1 (by rw [H.out.2.2.1, H.out.2.2.2.1])).mono ?_
  rintro e w3 ⟨ao3, c3, rfl, hown, hbel⟩
  rw [← H.out.2.2.2.1] at hown
  have HK3 := Lib.hid (fun k hk => (hown.lt k hk).2)
  have HW3 := Lib.hid (And.intro (Sl.of_owns hown) (below_thn HW2.out.2 hbel (Nat.le_refl _)))
  clear hbel HW2 hown hnx
  go_wp2_with fail
  refine (pad_any _ xs _ HW3.out.1 (Nat.le_trans H.out.2.1 (by omega))).mono ?_
  rintro e w4 ⟨ao4, c4, n4, rfl, hn4, hown, hbel⟩
  rw [H.out.2.2.2.2.2] at hn4
  have hmod : Int.tmod (n4 : Int) 64 = 0 := by rw [hn4, Int.tmod_eq_emod_of_nonneg (by omega)]; omega
  have HN4 := Lib.hid hn4
  rw [← hn4] at hm1 hm2 hm3
  have HK4 := Lib.hid (And.intro (fun k hk => Nat.lt_of_lt_of_le (HK3.out k hk) hbel.size) (fun k hk => (hown.lt k hk).2))
  have HW4 := Lib.hid (And.intro (HW3.out.1.below hbel (Nat.le_refl _)) (And.intro (Sl.of_owns hown) (below_thn HW3.out.2 hbel (Nat.le_refl _))))
  clear hbel HW3 hown hn4 HK3
  go_wp2_with fail
  refine (prefix_of _ _ (padL xs) xs _ true HW4.out.2.1 HW4.out.1 (padL_allB H.out.1) H.out.1 (decide_eq_true ⟨by rw [padL_length]; omega, padL_head xs⟩)).mono ?_
  rintro e w5 ⟨rfl, rfl⟩
  go_wp2_with fail
  refine (start_any _).mono ?_
  rintro e w5 ⟨rfl, hbel⟩
  rw [← HS.out.1]
  have HK5 := Lib.hid (And.intro (fun k hk => Nat.lt_of_lt_of_le (HK4.out.1 k hk) hbel.size) (fun k hk => Nat.lt_of_lt_of_le (HK4.out.2 k hk) hbel.size))
  have HW5 := Lib.hid (And.intro (HW4.out.1.below hbel (Nat.le_refl _)) (And.intro (HW4.out.2.1.below hbel (Nat.le_refl _)) (below_thn HW4.out.2.2 hbel (Nat.le_refl _))))
  have HY := Lib.hid (Blk.new w5 [.int .u32 0, .int .u32 0, .int .u32 0, .int .u32 0, .int .u32 0, .int .u32 0, .int .u32 0, .int .u32 0] 42)
  have HL := Lib.hid (show (ofN S0).length = ([.int .u32 0, .int .u32 0, .int .u32 0, .int .u32 0, .int .u32 0, .int .u32 0, .int .u32 0, .int .u32 0] : List Value).length by rw [ofN_length, HS.out.2]; rfl)
  have HI := Lib.hid (show (Try.prog.info? 42).map (·.size) = some (ofN S0).length by rw [ofN_length, HS.out.2]; kernel_rfl)
  clear hbel HW4 HK4 hmod
  go_upto_region 8 with (with_reducible refine wpList_store_blk _ rfl 42 (.tmp 5) (.tmp 42) rfl w5.heap.size 42 [.int .u32 0, .int .u32 0, .int .u32 0, .int .u32 0, .int .u32 0, .int .u32 0, .int .u32 0, .int .u32 0] (ofN S0) HY.out rfl rfl HL.out HI.out (one_ofN _) ?_; intro w6 hb6 hch6 hsz6; clear hsz6)
  have hbel := fresh_ch hch6
  have HW6 := Lib.hid (And.intro (HW5.out.1.below hbel (Nat.le_refl _)) (And.intro (HW5.out.2.1.below hbel (Nat.le_refl _)) (below_thn HW5.out.2.2 hbel (Nat.le_refl _))))
  have HG6 := Lib.hid hb6
  have HW6b := Lib.hid (HW5.out.2.2.size)
  clear hbel HW5 hch6 hb6 HY HL HI
  have HGB := Lib.hid (HW6b.out)
  generalize w5.heap.size = g at *
  go_wp2_with fail
  go_loopw [6] (fun v wr => ∃ (i k : Nat) (hs : List Nat), v = .int .i64 i ∧ i ≤ n4 ∧ (i = n4 ∨ i + 64 ≤ n4) ∧ Hid (i = 64 * k ∧ k ≤ m ∧ hs.length = 8 ∧ All32 hs ∧ chainN hs (m - k) ((padL xs).drop i) = chainN H8 m (padL xs)) ∧
    Hid (Blk wr g 42 (ofN hs)) ∧ Hid (Sl wr (.slice ao3 nx c3) (ofK .u8 xs) ∧ Sl wr (.slice ao4 n4 c4) (ofK .u8 (padL xs)) ∧ Below w.heap.size w wr)) (fun v _ => n4 - (intOf v).toNat)
  case atStart => exact ⟨0, 0, S0, rfl, by omega, .inr (by rw [HN4.out]; omega), Lib.hid ⟨rfl, by omega, HS.out.2, by rw [HS.out.1]; exact H8_good.2, by rw [HS.out.1, List.drop_zero, Nat.sub_zero]⟩, HG6, HW6⟩
  case round =>
    clear HW6 HG6
    obtain ⟨i, k, hs, rfl, hin, hik, HC, HG, HW⟩ := hrel
    by_cases hlt : i = n4
    · subst hlt
      have hkm : k = m := by have h1 := HC.out.1; have h2 := HN4.out; omega
      have hF := HC.out.2.2.2.2
      rw [hkm, Nat.sub_self] at hF
      have HF := Lib.hid (show sumL xs = bytesN hs by
        unfold sumL
        rw [← H.out.2.2.2.2.1, ← hF]; rfl)
      have HL8 := Lib.hid (And.intro HC.out.2.2.1 HC.out.2.2.2.1)
      clear HC hF hkm hik hin
      go_wp2_with fail
      refine (sum_any _ xs _ HW.out.1 (Nat.le_trans H.out.2.1 (by omega)) H.out.1).mono ?_
      rintro e w5 ⟨rfl, hbel⟩
      have HY := Lib.hid (Blk.new w5 [.int .u8 0, .int .u8 0, .int .u8 0, .int .u8 0, .int .u8 0, .int .u8 0, .int .u8 0, .int .u8 0, .int .u8 0, .int .u8 0, .int .u8 0, .int .u8 0, .int .u8 0, .int .u8 0, .int .u8 0, .int .u8 0, .int .u8 0, .int .u8 0, .int .u8 0, .int .u8 0, .int .u8 0, .int .u8 0, .int .u8 0, .int .u8 0, .int .u8 0, .int .u8 0, .int .u8 0, .int .u8 0, .int .u8 0, .int .u8 0, .int .u8 0, .int .u8 0] 23)
      have HG5 := Lib.hid (HG.out.below hbel HG.out.lt)
      have HW5 := Lib.hid (below_thn HW.out.2.2 hbel (Nat.le_refl _))
      rw [HF.out]
      have hbl : (bytesN hs).length = 32 := by rw [bytesN_length, HL8.out.1]
      have HL := Lib.hid (show (ofK .u8 (bytesN hs)).length = ([.int .u8 0, .int .u8 0, .int .u8 0, .int .u8 0, .int .u8 0, .int .u8 0, .int .u8 0, .int .u8 0, .int .u8 0, .int .u8 0, .int .u8 0, .int .u8 0, .int .u8 0, .int .u8 0, .int .u8 0, .int .u8 0, .int .u8 0, .int .u8 0, .int .u8 0, .int .u8 0, .int .u8 0, .int .u8 0, .int .u8 0, .int .u8 0, .int .u8 0, .int .u8 0, .int .u8 0, .int .u8 0, .int .u8 0, .int .u8 0, .int .u8 0, .int .u8 0] : List Value).length by rw [length_ofK, hbl]; rfl)
      have HI := Lib.hid (show (Try.prog.info? 23).map (·.size) = some (ofK .u8 (bytesN hs)).length by rw [length_ofK, hbl]; kernel_rfl)
      have HI2 := Lib.hid (show (Try.prog.info? 42).map (·.size) = some (ofN hs).length by rw [ofN_length, HL8.out.1]; kernel_rfl)
      obtain ⟨Y, hY⟩ : ∃ Y, Y = bytesN hs := ⟨_, rfl⟩
      have HYB := Lib.hid hY
      rw [← hY] at HL HI ⊢
      clear hbel HW HG hbl hY
      go_wp2_with (first
        | (with_reducible refine wpList_store_blk _ rfl 23 (.tmp 7) (.tmp 59) rfl w5.heap.size 23 [.int .u8 0, .int .u8 0, .int .u8 0, .int .u8 0, .int .u8 0, .int .u8 0, .int .u8 0, .int .u8 0, .int .u8 0, .int .u8 0, .int .u8 0, .int .u8 0, .int .u8 0, .int .u8 0, .int .u8 0, .int .u8 0, .int .u8 0, .int .u8 0, .int .u8 0, .int .u8 0, .int .u8 0, .int .u8 0, .int .u8 0, .int .u8 0, .int .u8 0, .int .u8 0, .int .u8 0, .int .u8 0, .int .u8 0, .int .u8 0, .int .u8 0, .int .u8 0] (ofK .u8 Y) HY.out rfl rfl HL.out HI.out (one_ofK _ _) ?_; intro w6 hb6 hch6 hsz6; clear hsz6; have HF6 := Lib.hid (And.intro hb6 (fresh_ch hch6)); clear hb6 hch6)
        | (with_reducible refine wpList_load_blk _ rfl 42 (.tmp 5) rfl g 42 (ofN hs) (HG5.out.below HF6.out.2 HG5.out.lt) rfl _ Try.underlying42 rfl HI2.out ?_))
      have HB6 := Lib.hid (below_thn HW5.out HF6.out.2 (Nat.le_refl _))
      have HI6 := Lib.hid HF6.out.1
      clear HF6 HW5 HG5 HY HL HI HI2
      generalize w5.heap.size = d at *
      go_loopw [61] (fun v wr => ∃ k : Nat, k ≤ 8 ∧ v = .int .i64 k ∧ Hid (Sm w6 wr)) (fun v _ => 8 - (intOf v).toNat)
      case atStart => exact ⟨0, by omega, rfl, Lib.hid (Sm.refl _)⟩
      case round =>
        obtain ⟨k, hk, rfl, HS6⟩ := hrel
        by_cases hlt : k < 8
        · obtain ⟨x, hx⟩ : ∃ x, hs.getD k 0 = x := ⟨_, rfl⟩
          have hix : ∀ w : World, (Instr.index 42 (.agg (ofN hs).toArray) (.int .i64 k)).run Try.prog w = .ok (.int .u32 (x : Nat)) w := fun w => run_index_arr Try.underlying42 (by omega) (by omega) (fun _ => by rfl) (fun _ => by rfl) _ (by
            rw [Int.toNat_natCast, List.getElem?_toArray, ofN_get _ _ (by rw [HL8.out.1]; exact hlt), ← hx, List.getD_eq_getElem?_getD, List.getElem?_eq_getElem (by rw [HL8.out.1]; exact hlt)]; rfl)
          have hx1 : x < 4294967296 := by rw [← hx]; exact HL8.out.2.getD _
          have hcell : ∀ j, j < 4 → wr.cell? ⟨d, 4 * k + j, none⟩ = some (.int .u8 (beAt (x : Int) 4 j)) := fun j hj => by
            have hg := bytesN_get hs k j (by rw [HL8.out.1]; exact hlt) hj
            have hl : 4 * k + j < Y.length := by rw [HYB.out, bytesN_length, HL8.out.1]; omega
            rw [HS6.out.cell, HI6.out.cell, get_ofK _ _ _ hl]
            rw [List.getD_eq_getElem?_getD, ← HYB.out, List.getElem?_eq_getElem hl] at hg
            rw [← hx]
            exact congrArg (fun v => some (Value.int IntKind.u8 v)) hg
          have hc0 := hcell 0 (by omega)
          have hc1 := hcell 1 (by omega)
          have hc2 := hcell 2 (by omega)
          have hc3 := hcell 3 (by omega)
          rw [Nat.add_zero] at hc0
          clear hcell hx
          obtain ⟨p0, hp0⟩ : ∃ p, p = beAt (x : Int) 4 0 := ⟨_, rfl⟩
          obtain ⟨p1, hp1⟩ : ∃ p, p = beAt (x : Int) 4 1 := ⟨_, rfl⟩
          obtain ⟨p2, hp2⟩ : ∃ p, p = beAt (x : Int) 4 2 := ⟨_, rfl⟩
          obtain ⟨p3, hp3⟩ : ∃ p, p = beAt (x : Int) 4 3 := ⟨_, rfl⟩
          rw [← hp0] at hc0
          rw [← hp1] at hc1
          rw [← hp2] at hc2
          rw [← hp3] at hc3
          have e0 : p0 = (x : Int) / 16777216 % 256 := hp0
          have e1 : p1 = (x : Int) / 65536 % 256 := hp1
          have e2 : p2 = (x : Int) / 256 % 256 := hp2
          have e3 : p3 = (x : Int) / 1 % 256 := hp3
          have b0 : 0 ≤ p0 ∧ p0 < 256 := by omega
          have b1 : 0 ≤ p1 ∧ p1 < 256 := by omega
          have b2 : 0 ≤ p2 ∧ p2 < 256 := by omega
          have b3 : 0 ≤ p3 ∧ p3 < 256 := by omega
          have ex : (x : Int) = p0 * 16777216 + p1 * 65536 + p2 * 256 + p3 := by omega
          have f1 : bits BinOp.or IntKind.u32 (p0 * 16777216) (p1 * 65536) = p0 * 16777216 + p1 * 65536 := or_add32 _ _ 24 p0 (by omega) b0.1 (by omega) (by omega)
          have f2 : bits BinOp.or IntKind.u32 (p0 * 16777216 + p1 * 65536) (p2 * 256) = p0 * 16777216 + p1 * 65536 + p2 * 256 := or_add32 _ _ 16 (p0 * 256 + p1) (by omega) (by omega) (by omega) (by omega)
          have f3 : bits BinOp.or IntKind.u32 (p0 * 16777216 + p1 * 65536 + p2 * 256) p3 = (x : Int) := by
            rw [or_add32 _ _ 8 (p0 * 65536 + p1 * 256 + p2) (by omega) (by omega) (by omega) (by omega), ex]
          have q0 : IntKind.u32.wrap p0 = p0 := by rw [IntKind.wrap_u32]; omega
          have q1 : IntKind.u32.wrap p1 = p1 := by rw [IntKind.wrap_u32]; omega
          have q2 : IntKind.u32.wrap p2 = p2 := by rw [IntKind.wrap_u32]; omega
          have q3 : IntKind.u32.wrap p3 = p3 := by rw [IntKind.wrap_u32]; omega
          have r0 : IntKind.u32.wrap (p0 * 16777216) = p0 * 16777216 := by rw [IntKind.wrap_u32]; omega
          have r1 : IntKind.u32.wrap (p1 * 65536) = p1 * 65536 := by rw [IntKind.wrap_u32]; omega
          have r2 : IntKind.u32.wrap (p2 * 256) = p2 * 256 := by rw [IntKind.wrap_u32]; omega
          have s0 : IntKind.i64.wrap (4 * (k : Int)) = 4 * (k : Int) := IntWalk.i64_in _ (by omega)
          have s1 : IntKind.i64.wrap (4 * (k : Int) + 1) = 4 * (k : Int) + 1 := IntWalk.i64_in _ (by omega)
          have s2 : IntKind.i64.wrap (4 * (k : Int) + 2) = 4 * (k : Int) + 2 := IntWalk.i64_in _ (by omega)
          have s3 : IntKind.i64.wrap (4 * (k : Int) + 3) = 4 * (k : Int) + 3 := IntWalk.i64_in _ (by omega)
          have t0 : (4 * (k : Int)).toNat = 4 * k := by omega
          have t1 : (4 * (k : Int) + 1).toNat = 4 * k + 1 := by omega
          have t2 : (4 * (k : Int) + 2).toNat = 4 * k + 2 := by omega
          have t3 : (4 * (k : Int) + 3).toNat = 4 * k + 3 := by omega
          have hk8 : (k : Int) < 8 := by omega
          have hk0 : (0 : Int) ≤ (k : Int) := by omega
          clear hp0 hp1 hp2 hp3 e0 e1 e2 e3 ex b0 b1 b2 b3
          go_wp2_with fail
          go_quiet (fail)
          go_wp2_with fail
          go_roundw
          case rel => exact ⟨k + 1, by omega, by go_num, Lib.hid (HS6.out.drewN _)⟩
          case measure => simp [intOf]; omega
        · obtain rfl : k = 8 := by omega
          go_wp2_with fail
          go_ret
          exact ⟨rfl, HB6.out.trans (HS6.out.below _)⟩
    · have hi64 : i + 64 ≤ n4 := by omega
      have hik2 : (i : Int) < (n4 : Int) := by omega
      obtain ⟨b, o, rfl, hnc, hcm⟩ : ∃ b o, ao4 = some ⟨b, o, none⟩ ∧ n4 ≤ c4 ∧ c4 ≤ 9223372036854775807 := by
        obtain ⟨ao', c', e, h1, h2, h3⟩ := HW.out.2.1.nums
        cases e
        obtain ⟨b, o, e2, _⟩ := h3 (by rw [H.out.2.2.2.2.2, ← HN4.out]; omega)
        exact ⟨b, o, e2, by rw [HN4.out, ← H.out.2.2.2.2.2]; exact h1, h2⟩
      have hwi : IntKind.i64.wrap ((i : Int) + 64) = (i : Int) + 64 := IntWalk.i64_in _ (by omega)
      have hx1 : (0 : Int) ≤ (i : Int) := by omega
      have hx2 : (i : Int) ≤ (i : Int) + 64 := by omega
      have hx3 : (i : Int) + 64 ≤ (c4 : Int) := by omega
      have hx4 : ((i : Int) + 64).toNat = i + 64 := by omega
      have hat : ∀ w, (Instr.arrayAt 45 (.slice (some ⟨b, o + i, none⟩) 64 (c4 - i))).run Try.prog w = .ok (.pointer (some ⟨b, o + i, none⟩)) w := fun w => run_arrayAt w 45 _ 64 _ 64 (c4 - i) Try.underlying45 (Nat.le_refl _)
      obtain ⟨cs, hcs⟩ : ∃ cs, cs = ofK .u8 (((padL xs).drop i).take 64) := ⟨_, rfl⟩
      have hdl : (((padL xs).drop i).take 64).length = 64 := by rw [List.length_take, List.length_drop, H.out.2.2.2.2.2, ← HN4.out]; omega
      have hr8 := fun w' hw' => rangeAt_grew (rangeAt_blk HG.out) w' hw'
      have hr64 := fun w' hw' => rangeAt_grew (by
        have h1 := HW.out.2.1.drop i (by rw [length_ofK, H.out.2.2.2.2.2, ← HN4.out]; omega)
        rw [Option.map_some, Addr.add_mid] at h1
        have h2 := rangeAt_sl h1 64
        rwa [drop_ofK, take_ofK, ← hcs] at h2) w' hw'
      have HR := Lib.hid (And.intro hr8 hr64)
      have HI := Lib.hid (And.intro (show (Try.prog.info? 42).map (·.size) = some (ofN hs).length by rw [ofN_length, HC.out.2.2.1]; kernel_rfl) (show (Try.prog.info? 45).map (·.size) = some cs.length by rw [hcs, length_ofK, hdl]; kernel_rfl))
      have HX := Lib.hid (And.intro hcs hdl)
      clear hr8 hr64 hcs hdl
      go_wp2_with fail
      refine wp_region_grew_tail 9 (by kernel_rfl) (by kernel_rfl) ?_
      simp only [List.take_succ_cons, List.take_zero, List.drop_succ_cons, List.drop_zero]
      go_big_quiet_want
      refine quiet_load_mid 42 (.tmp 5) rfl g 0 rfl (ofN hs) _ HR.out.1 Try.underlying42 rfl HI.out.1 ?_
      go_simp
      go_big_quiet_on
      repeat (first | go_big_quiet_skip | (go_big_quiet_want; go_big_quiet_op; go_big_quiet_on))
      go_big_quiet_want
      refine quiet_load_mid 45 (.tmp 55) rfl b (o + i) rfl cs _ HR.out.2 Try.underlying45 rfl HI.out.2 ?_
      go_simp
      go_big_quiet_on
      go_big_quiet_want
      go_big_quiet_op
      apply Exists.intro
      refine ⟨fun _ => ?_, ?_⟩
      focus (go_at_call 39; rw [HX.out.1]; exact calls_grew (block_any hs (((padL xs).drop i).take 64) _ HC.out.2.2.1 HC.out.2.2.2.1 HX.out.2 (allB_take (allB_drop (padL_allB H.out.1) i) 64)))
      go_big_quiet_on
      refine wpQuiet_nil ?_
      intro w5 hw5
      obtain ⟨p, rfl⟩ := hw5
      have hbel := below_grew wr p
      have HG5 := Lib.hid (HG.out.below hbel HG.out.lt)
      have HW5 := Lib.hid (And.intro (HW.out.1.below hbel (Nat.le_refl _)) (And.intro (HW.out.2.1.below hbel (Nat.le_refl _)) (below_thn HW.out.2.2 hbel (Nat.le_refl _))))
      have hgood := blockN_length HC.out.2.2.1 HC.out.2.2.2.1 (allB_take (allB_drop (padL_allB H.out.1) i) 64)
      have h32 := blockN_32 hs (((padL xs).drop i).take 64)
      have hkm : k < m := by have h1 := HC.out.1; have h2 := HN4.out; omega
      have hch := HC.out.2.2.2.2
      rw [show m - k = (m - (k + 1)) + 1 by omega, show chainN hs ((m - (k + 1)) + 1) ((padL xs).drop i) = chainN (blockN hs (((padL xs).drop i).take 64)) (m - (k + 1)) (((padL xs).drop i).drop 64) from rfl, List.drop_drop] at hch
      have hik3 : i + 64 = 64 * (k + 1) := by rw [HC.out.1]; omega
      clear hbel HG HW HR HX hat
      generalize grew wr p = w5 at HG5 HW5 ⊢
      generalize blockN hs (((padL xs).drop i).take 64) = hs' at hgood h32 hch ⊢
      have HL := Lib.hid (show (ofN hs').length = (ofN hs).length by rw [ofN_length, ofN_length, hgood, HC.out.2.2.1])
      have HI2 := Lib.hid (show (Try.prog.info? 42).map (·.size) = some (ofN hs').length by rw [HL.out]; exact HI.out.1)
      have HK := Lib.hid (And.intro hik3 (And.intro hgood (And.intro h32 (And.intro hch hkm))))
      clear hgood h32 hch HI hik3 hkm HC
      refine wpList_store_blk _ rfl 42 (.tmp 5) (.tmp 57) rfl g 42 (ofN hs) (ofN hs') HG5.out rfl rfl HL.out HI2.out (one_ofN _) ?_
      intro w6 hb6 hch6 hsz6
      have HG6 := Lib.hid hb6
      have HW6 := Lib.hid (And.intro (HW5.out.1.keep hch6 (fun k hk h => by have h2 : k = g := h; have := HK5.out.1 k hk; omega)) (And.intro (HW5.out.2.1.keep hch6 (fun k hk h => by have h2 : k = g := h; have := HK5.out.2 k hk; omega)) (below_ch HW5.out.2.2 hch6 (Nat.le_refl _) (fun k h => by have h2 : k = g := h; have := HGB.out; omega))))
      clear hb6 hch6 hsz6 HG5 HW5 HL HI2
      go_wp2_with fail
      go_roundw
      case rel => exact ⟨i + 64, k + 1, hs', by go_num, by omega, by have h2 := HN4.out; have h3 := HK.out.1; have h4 := HK.out.2.2.2.2; omega, Lib.hid ⟨HK.out.1, HK.out.2.2.2.2, HK.out.2.1, HK.out.2.2.1, HK.out.2.2.2.1⟩, HG6, HW6⟩
      case measure => simp [intOf]; omega

theorem shaChains_walk (v1 : Value) (us : List Int) (w : World) (h1 : Sl w v1 (ofK .u8 us)) (ha : AllB us) (_ : us.length ≤ 140737488351232) :
    Calls Try.prog 7 #[v1] w (TrueP w) :=
  chains_go v1 us _ _ _ w h1 ha rfl rfl rfl

end Go.Proofs.Ytkbhehnpgnilmaa
