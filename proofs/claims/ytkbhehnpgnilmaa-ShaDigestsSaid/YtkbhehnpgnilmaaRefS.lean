/-
  The reference's Sum, walked. Conditions: at most 700 bytes, the constants, a good start.
-/
import Derived.Test.YtkbhehnpgnilmaaFill
import Derived.Test.YtkbhehnpgnilmaaRefB
import Derived.Test.YtkbhehnpgnilmaaShaZ
namespace Go.Proofs.Ytkbhehnpgnilmaa
open Go Go.RowKit

set_option maxRecDepth 100000 in
set_option maxHeartbeats 2000000 in
theorem rsum_any (v : Value) (bv : List Int) (K S : List Nat) (w : World) (hs : Sl w v (ofK .u8 bv)) (hl : bv.length ≤ 700) (ha : AllB bv) (hK : K = K64) (hS : S = H8) :
    Calls Try.prog 90 #[v, .agg (ofN K).toArray, .agg (ofN S).toArray] w (fun e w' => e = .returned (.agg (ofK .u8 (sumL bv)).toArray) ∧ Below w.heap.size w w') := by
  obtain ⟨ao, c, rfl, -⟩ := hs.nums
  have hpm := padL_mod bv
  have hpl := padL_length bv
  obtain ⟨m, hm⟩ : ∃ m, m = (padL bv).length / 64 := ⟨_, rfl⟩
  have H := Lib.hid (And.intro hl (And.intro ha (And.intro hK (And.intro hS (And.intro hm (show (padL bv).length = 64 * m by omega))))))
  have hm1 : m ≤ 13 := by omega
  have hm0 : 1 ≤ m := by omega
  have HV := Lib.hid hs
  have HKl := Lib.hid (And.intro (show K.length = 64 by rw [hK]; decide) (show S.length = 8 by rw [hS]; decide))
  have HI := Lib.hid (And.intro (show ∀ xs : List Nat, xs.length = 8 → (Try.prog.info? 42).map (·.size) = some (ofN xs).length from fun xs hx => by rw [ofN_length, hx]; kernel_rfl) (And.intro (show (Try.prog.info? 46).map (·.size) = some (ofN K).length by rw [ofN_length, HKl.out.1]; kernel_rfl) (show ∀ xs : List Int, xs.length = 32 → (Try.prog.info? 23).map (·.size) = some (ofK .u8 xs).length from fun xs hx => by rw [length_ofK, hx]; kernel_rfl)))
  have HB := Lib.hid (show Blk (((w.alloc (.cells (ofN K).toArray 46)).alloc (.cells (ofN S).toArray 42)).alloc (.cells #[.int .u8 0, .int .u8 0, .int .u8 0, .int .u8 0, .int .u8 0, .int .u8 0, .int .u8 0, .int .u8 0, .int .u8 0, .int .u8 0, .int .u8 0, .int .u8 0, .int .u8 0, .int .u8 0, .int .u8 0, .int .u8 0, .int .u8 0, .int .u8 0, .int .u8 0, .int .u8 0, .int .u8 0, .int .u8 0, .int .u8 0, .int .u8 0, .int .u8 0, .int .u8 0, .int .u8 0, .int .u8 0, .int .u8 0, .int .u8 0, .int .u8 0, .int .u8 0] 23)) w.heap.size 46 (ofN K) ∧ Blk (((w.alloc (.cells (ofN K).toArray 46)).alloc (.cells (ofN S).toArray 42)).alloc (.cells #[.int .u8 0, .int .u8 0, .int .u8 0, .int .u8 0, .int .u8 0, .int .u8 0, .int .u8 0, .int .u8 0, .int .u8 0, .int .u8 0, .int .u8 0, .int .u8 0, .int .u8 0, .int .u8 0, .int .u8 0, .int .u8 0, .int .u8 0, .int .u8 0, .int .u8 0, .int .u8 0, .int .u8 0, .int .u8 0, .int .u8 0, .int .u8 0, .int .u8 0, .int .u8 0, .int .u8 0, .int .u8 0, .int .u8 0, .int .u8 0, .int .u8 0, .int .u8 0] 23)) (w.heap.size + 1) 42 (ofN S) ∧ Blk (((w.alloc (.cells (ofN K).toArray 46)).alloc (.cells (ofN S).toArray 42)).alloc (.cells #[.int .u8 0, .int .u8 0, .int .u8 0, .int .u8 0, .int .u8 0, .int .u8 0, .int .u8 0, .int .u8 0, .int .u8 0, .int .u8 0, .int .u8 0, .int .u8 0, .int .u8 0, .int .u8 0, .int .u8 0, .int .u8 0, .int .u8 0, .int .u8 0, .int .u8 0, .int .u8 0, .int .u8 0, .int .u8 0, .int .u8 0, .int .u8 0, .int .u8 0, .int .u8 0, .int .u8 0, .int .u8 0, .int .u8 0, .int .u8 0, .int .u8 0, .int .u8 0] 23)) (w.heap.size + 1 + 1) 23 (ofK .u8 (List.replicate 32 0)) ∧ Below w.heap.size w (((w.alloc (.cells (ofN K).toArray 46)).alloc (.cells (ofN S).toArray 42)).alloc (.cells #[.int .u8 0, .int .u8 0, .int .u8 0, .int .u8 0, .int .u8 0, .int .u8 0, .int .u8 0, .int .u8 0, .int .u8 0, .int .u8 0, .int .u8 0, .int .u8 0, .int .u8 0, .int .u8 0, .int .u8 0, .int .u8 0, .int .u8 0, .int .u8 0, .int .u8 0, .int .u8 0, .int .u8 0, .int .u8 0, .int .u8 0, .int .u8 0, .int .u8 0, .int .u8 0, .int .u8 0, .int .u8 0, .int .u8 0, .int .u8 0, .int .u8 0, .int .u8 0] 23)) ∧ (((w.alloc (.cells (ofN K).toArray 46)).alloc (.cells (ofN S).toArray 42)).alloc (.cells #[.int .u8 0, .int .u8 0, .int .u8 0, .int .u8 0, .int .u8 0, .int .u8 0, .int .u8 0, .int .u8 0, .int .u8 0, .int .u8 0, .int .u8 0, .int .u8 0, .int .u8 0, .int .u8 0, .int .u8 0, .int .u8 0, .int .u8 0, .int .u8 0, .int .u8 0, .int .u8 0, .int .u8 0, .int .u8 0, .int .u8 0, .int .u8 0, .int .u8 0, .int .u8 0, .int .u8 0, .int .u8 0, .int .u8 0, .int .u8 0, .int .u8 0, .int .u8 0] 23)).heap.size = w.heap.size + 3 from by
    have h1 := Blk.new w (ofN K) 46
    have h2 := Blk.new (w.alloc (.cells (ofN K).toArray 46)) (ofN S) 42
    have h3 := Blk.new ((w.alloc (.cells (ofN K).toArray 46)).alloc (.cells (ofN S).toArray 42)) (ofK .u8 (List.replicate 32 0)) 23
    rw [World.size_alloc] at h2
    rw [World.size_alloc, World.size_alloc] at h3
    exact ⟨(h1.alloc _).alloc _, h2.alloc _, h3, ((((Below.refl _ w).alloc (Nat.le_refl _) _).alloc (by simp) _).alloc (by simp; omega) _), by simp [World.size_alloc]⟩)
  clear hs hl ha hK hS hpm hpl hm
  go_enter Try.func90, Try.ntmps90
  go_upto_region 1 with fail
  generalize (((w.alloc (.cells (ofN K).toArray 46)).alloc (.cells (ofN S).toArray 42)).alloc (.cells #[.int .u8 0, .int .u8 0, .int .u8 0, .int .u8 0, .int .u8 0, .int .u8 0, .int .u8 0, .int .u8 0, .int .u8 0, .int .u8 0, .int .u8 0, .int .u8 0, .int .u8 0, .int .u8 0, .int .u8 0, .int .u8 0, .int .u8 0, .int .u8 0, .int .u8 0, .int .u8 0, .int .u8 0, .int .u8 0, .int .u8 0, .int .u8 0, .int .u8 0, .int .u8 0, .int .u8 0, .int .u8 0, .int .u8 0, .int .u8 0, .int .u8 0, .int .u8 0] 23)) = w1 at HB ⊢
  obtain ⟨s1, hs1⟩ : ∃ s, s = w.heap.size + 1 := ⟨_, rfl⟩
  obtain ⟨s2, hs2⟩ : ∃ s, s = s1 + 1 := ⟨_, rfl⟩
  rw [← hs1, ← hs2] at HB ⊢
  have HS := Lib.hid (And.intro hs1 hs2)
  clear hs1 hs2
  obtain ⟨n4, hn4⟩ : ∃ n, n = (padL bv).length := ⟨_, rfl⟩
  have HN4 := Lib.hid (show n4 = 64 * m by rw [hn4, H.out.2.2.2.2.2])
  have hn772 : n4 ≤ 832 := by rw [HN4.out]; omega
  go_wp2_with fail
  refine (rfill_any _ bv n4 _ (by exact HV.out.below HB.out.2.2.2.1 (Nat.le_refl _)) H.out.1 hn4).mono ?_
  rintro e w2 ⟨ao4, c4, rfl, hown, hbel⟩
  have HO2 := Lib.hid (And.intro (Sl.of_owns hown) (fun k hk => (hown.lt k hk).1))
  have HW2 := Lib.hid (And.intro (HB.out.1.below hbel HB.out.1.lt) (And.intro (HB.out.2.1.below hbel HB.out.2.1.lt) (And.intro (HB.out.2.2.1.below hbel HB.out.2.2.1.lt) (below_thn HB.out.2.2.2.1 hbel (Nat.le_refl _)))))
  have HS3 := Lib.hid HB.out.2.2.2.2
  rw [HS3.out] at HO2
  clear hown hbel HB hn4
  go_wp2_with fail
  go_loopw [8] (fun v wr => ∃ (i k : Nat) (hs : List Nat), v = .int .i64 i ∧ i ≤ n4 ∧ (i = n4 ∨ i + 64 ≤ n4) ∧ Hid (i = 64 * k ∧ k ≤ m ∧ hs.length = 8 ∧ All32 hs ∧ chainN hs (m - k) ((padL bv).drop i) = chainN H8 m (padL bv)) ∧
    Hid (Blk wr s1 42 (ofN hs)) ∧ Hid (Sl wr (.slice ao4 n4 c4) (ofK .u8 (padL bv)) ∧ Blk wr w.heap.size 46 (ofN K) ∧ Blk wr s2 23 (ofK .u8 (List.replicate 32 0)) ∧ Below w.heap.size w wr)) (fun v _ => n4 - (intOf v).toNat)
  case atStart => exact ⟨0, 0, S, rfl, by omega, .inr (by rw [HN4.out]; omega), Lib.hid ⟨rfl, by omega, HKl.out.2, by rw [H.out.2.2.2.1]; exact H8_good.2, by rw [H.out.2.2.2.1, List.drop_zero, Nat.sub_zero]⟩, Lib.hid HW2.out.2.1, Lib.hid ⟨HO2.out.1, HW2.out.1, HW2.out.2.2.1, HW2.out.2.2.2⟩⟩
  case round =>
    clear HW2
    obtain ⟨i, k, hs, rfl, hin, hik, HC, HG, HW⟩ := hrel
    by_cases hlt : i = n4
    · subst hlt
      have hkm : k = m := by have h1 := HC.out.1; have h2 := HN4.out; omega
      have hF := HC.out.2.2.2.2
      rw [hkm, Nat.sub_self] at hF
      have HF := Lib.hid (show sumL bv = bytesN hs by
        unfold sumL
        rw [← H.out.2.2.2.2.1, ← hF]; rfl)
      have HL8 := Lib.hid (And.intro HC.out.2.2.1 HC.out.2.2.2.1)
      obtain ⟨Y, hY⟩ : ∃ Y, Y = bytesN hs := ⟨_, rfl⟩
      have hYl : Y.length = 32 := by rw [hY, bytesN_length, HL8.out.1]
      have HY := Lib.hid (And.intro hY hYl)
      have HB0 := Lib.hid (show Blk (wr.alloc (.cells #[.int .u8 0, .int .u8 0, .int .u8 0, .int .u8 0, .int .u8 0, .int .u8 0, .int .u8 0, .int .u8 0, .int .u8 0, .int .u8 0, .int .u8 0, .int .u8 0, .int .u8 0, .int .u8 0, .int .u8 0, .int .u8 0, .int .u8 0, .int .u8 0, .int .u8 0, .int .u8 0, .int .u8 0, .int .u8 0, .int .u8 0, .int .u8 0, .int .u8 0, .int .u8 0, .int .u8 0, .int .u8 0, .int .u8 0, .int .u8 0, .int .u8 0, .int .u8 0] 23)) s1 42 (ofN hs) ∧ Blk (wr.alloc (.cells #[.int .u8 0, .int .u8 0, .int .u8 0, .int .u8 0, .int .u8 0, .int .u8 0, .int .u8 0, .int .u8 0, .int .u8 0, .int .u8 0, .int .u8 0, .int .u8 0, .int .u8 0, .int .u8 0, .int .u8 0, .int .u8 0, .int .u8 0, .int .u8 0, .int .u8 0, .int .u8 0, .int .u8 0, .int .u8 0, .int .u8 0, .int .u8 0, .int .u8 0, .int .u8 0, .int .u8 0, .int .u8 0, .int .u8 0, .int .u8 0, .int .u8 0, .int .u8 0] 23)) s2 23 (ofK .u8 (List.replicate 32 0)) ∧ Blk (wr.alloc (.cells #[.int .u8 0, .int .u8 0, .int .u8 0, .int .u8 0, .int .u8 0, .int .u8 0, .int .u8 0, .int .u8 0, .int .u8 0, .int .u8 0, .int .u8 0, .int .u8 0, .int .u8 0, .int .u8 0, .int .u8 0, .int .u8 0, .int .u8 0, .int .u8 0, .int .u8 0, .int .u8 0, .int .u8 0, .int .u8 0, .int .u8 0, .int .u8 0, .int .u8 0, .int .u8 0, .int .u8 0, .int .u8 0, .int .u8 0, .int .u8 0, .int .u8 0, .int .u8 0] 23)) wr.heap.size 23 (ofK .u8 (fillTo Y 0)) ∧ Below w.heap.size w (wr.alloc (.cells #[.int .u8 0, .int .u8 0, .int .u8 0, .int .u8 0, .int .u8 0, .int .u8 0, .int .u8 0, .int .u8 0, .int .u8 0, .int .u8 0, .int .u8 0, .int .u8 0, .int .u8 0, .int .u8 0, .int .u8 0, .int .u8 0, .int .u8 0, .int .u8 0, .int .u8 0, .int .u8 0, .int .u8 0, .int .u8 0, .int .u8 0, .int .u8 0, .int .u8 0, .int .u8 0, .int .u8 0, .int .u8 0, .int .u8 0, .int .u8 0, .int .u8 0, .int .u8 0] 23)) ∧ w.heap.size + 3 ≤ wr.heap.size from by
        refine ⟨HG.out.alloc _, HW.out.2.2.1.alloc _, ?_, HW.out.2.2.2.alloc HW.out.2.2.2.size _, ?_⟩
        · rw [fillTo_zero, hYl]; exact Blk.new wr (ofK .u8 (List.replicate 32 0)) 23
        · have h1 := HW.out.2.2.1.lt; have h2 := HS.out; omega)
      clear HC hF hkm hik hin HO2 HV HG HW hY hYl
      go_upto_region 7 with fail
      generalize wr.alloc (.cells #[.int .u8 0, .int .u8 0, .int .u8 0, .int .u8 0, .int .u8 0, .int .u8 0, .int .u8 0, .int .u8 0, .int .u8 0, .int .u8 0, .int .u8 0, .int .u8 0, .int .u8 0, .int .u8 0, .int .u8 0, .int .u8 0, .int .u8 0, .int .u8 0, .int .u8 0, .int .u8 0, .int .u8 0, .int .u8 0, .int .u8 0, .int .u8 0, .int .u8 0, .int .u8 0, .int .u8 0, .int .u8 0, .int .u8 0, .int .u8 0, .int .u8 0, .int .u8 0] 23) = w7 at HB0 ⊢
      generalize wr.heap.size = g at HB0 ⊢
      go_wp2_with fail
      go_loopw [27] (fun i wt => ∃ k : Nat, k ≤ 32 ∧ i = .int .i64 k ∧ Hid (Blk wt g 23 (ofK .u8 (fillTo Y k))) ∧ Hid (Blk wt s1 42 (ofN hs) ∧ Blk wt s2 23 (ofK .u8 (List.replicate 32 0)) ∧ Below w.heap.size w wt)) (fun i _ => 32 - (intOf i).toNat)
      case atStart => exact ⟨0, by omega, rfl, Lib.hid HB0.out.2.2.1, Lib.hid ⟨HB0.out.1, HB0.out.2.1, HB0.out.2.2.2.1⟩⟩
      case round =>
        have HG3 := Lib.hid HB0.out.2.2.2.2
        clear HB0
        obtain ⟨k, hk, rfl, HD, HW⟩ := hrel
        by_cases hlt : k < 32
        · obtain ⟨q, hq⟩ : ∃ q, q = k / 4 := ⟨_, rfl⟩
          obtain ⟨r, hr⟩ : ∃ q, q = k % 4 := ⟨_, rfl⟩
          have d1 : Int.tdiv (k : Int) 4 = (q : Int) := by rw [hq]; exact (Int.ofNat_tdiv k 4).symm
          have d2 : (k : Int) / 4 = (q : Int) := by omega
          have d3 : Int.tmod (k : Int) 4 = (r : Int) := by rw [hr]; exact (Int.ofNat_tmod k 4).symm
          have d4 : (k : Int) % 4 = (r : Int) := by omega
          have hq8 : q < 8 := by omega
          have hr4 : r < 4 := by omega
          have hkqr : k = 4 * q + r := by omega
          obtain ⟨x, hx⟩ : ∃ x, x = hs.getD q 0 := ⟨_, rfl⟩
          have hcx : wr.cell? ⟨s1, q, none⟩ = some (.int .u32 (x : Int)) := by rw [cell_ofN HW.out.1 q (by rw [HL8.out.1]; exact hq8), hx]
          have hx1 : x < 4294967296 := by rw [hx]; exact HL8.out.2.getD _
          have hwx : IntKind.u64.wrap (x : Int) = (x : Int) := by rw [IntKind.wrap_u64]; omega
          have hkY : k < Y.length := by rw [HY.out.2]; exact hlt
          obtain ⟨y, hy⟩ : ∃ y, y = Y[k] := ⟨_, rfl⟩
          have HBY := Lib.hid (show beAt (x : Int) 4 r = y by
            have hg := bytesN_get hs q r (by rw [HL8.out.1]; exact hq8) hr4
            rw [← hkqr, ← HY.out.1, List.getD_eq_getElem?_getD, List.getElem?_eq_getElem hkY, ← hx] at hg
            rw [hy]; exact hg.symm)
          have HSET := Lib.hid (show (ofK .u8 (fillTo Y k)).set k (.int .u8 y) = ofK .u8 (fillTo Y (k + 1)) by rw [hy]; exact fillTo_set .u8 Y k hkY)
          have hcell : wr.cell? ⟨g, k, none⟩ = some (.int .u8 0) := by rw [HD.out.cell]; exact fillTo_cell .u8 Y k hkY
          have hfree := HD.out.free k
          have w1' : IntKind.i64.wrap (q : Int) = (q : Int) := IntWalk.i64_in _ (by omega)
          have w2' : IntKind.i64.wrap (r : Int) = (r : Int) := IntWalk.i64_in _ (by omega)
          have hq8i : (q : Int) < 8 := by omega
          have HX1 := Lib.hid (show (0 : Int) ≤ (x : Int) ∧ (x : Int) ≤ 18446744073709551615 by omega)
          clear hq hr hkqr hx hy hkY
          go_wp2_with fail
          refine (byte_any (x : Int) 4 r y _ HX1.out (by omega) hr4 HBY.out).mono ?_
          rintro e w8 ⟨rfl, rfl⟩
          go_wp2_with fail
          go_roundw
          case rel => exact ⟨k + 1, by omega, by go_num, Lib.hid (by
            have := HD.out.set k (.int .u8 y)
            rw [HSET.out] at this
            exact this), Lib.hid ⟨HW.out.1.keep (Ch.set _ _ _) (fun h => by have h2 : s1 = g := h; have h3 := HG3.out; have h4 := HS.out; omega), HW.out.2.1.keep (Ch.set _ _ _) (fun h => by have h2 : s2 = g := h; have h3 := HG3.out; have h4 := HS.out; omega), below_ch HW.out.2.2 (Ch.set _ _ _) (Nat.le_refl _) (fun k h => by have h2 : k = g := h; have h3 := HG3.out; omega)⟩⟩
          case measure => simp [intOf]; omega
        · obtain rfl : k = 32 := by omega
          have HFA := Lib.hid (show fillTo Y 32 = Y by rw [← HY.out.2]; exact fillTo_all Y)
          rw [HFA.out] at HD
          have HI1 := Lib.hid (HI.out.2.2 Y HY.out.2)
          have HL1 := Lib.hid (show (ofK .u8 Y).length = (ofK .u8 (List.replicate 32 0)).length by rw [length_ofK, length_ofK, HY.out.2, List.length_replicate])
          go_wp2_with (first
            | (refine wpList_load_blk _ rfl 23 (.tmp 9) rfl g 23 (ofK .u8 Y) HD.out rfl _ Try.underlying23 rfl HI1.out ?_)
            | (refine wpList_store_blk _ rfl 23 (.tmp 6) (.tmp 41) rfl s2 23 (ofK .u8 (List.replicate 32 0)) (ofK .u8 Y) HW.out.2.1 rfl rfl HL1.out HI1.out (one_ofK _ _) ?_; intro w9 hb9 hch9 hsz9))
          have HW9 := below_ch HW.out.2.2 hch9 (Nat.le_refl _) (fun k h => by have h2 : k = s2 := h; have h4 := HS.out; omega)
          refine bodyPost_ret (v := .agg (ofK .u8 Y).toArray) ?_ rfl ⟨by rw [HF.out, HY.out.1], HW9⟩
          exact results_blk Try.results90 _ _ s2 _ _ rfl hb9 _ Try.underlying23 rfl HI1.out
    · have hi64 : i + 64 ≤ n4 := by omega
      have hik2 : (i : Int) < (n4 : Int) := by omega
      obtain ⟨b, o, rfl, hnc, hcm⟩ : ∃ b o, ao4 = some ⟨b, o, none⟩ ∧ n4 ≤ c4 ∧ c4 ≤ 9223372036854775807 := by
        obtain ⟨ao', c', e, h1, h2, h3⟩ := HW.out.1.nums
        cases e
        obtain ⟨b, o, e2, _⟩ := h3 (by rw [H.out.2.2.2.2.2, ← HN4.out]; omega)
        exact ⟨b, o, e2, by rw [HN4.out, ← H.out.2.2.2.2.2]; exact h1, h2⟩
      have hwi : IntKind.i64.wrap ((i : Int) + 64) = (i : Int) + 64 := IntWalk.i64_in _ (by omega)
      have hx1 : (0 : Int) ≤ (i : Int) := by omega
      have hx2 : (i : Int) ≤ (i : Int) + 64 := by omega
      have hx3 : (i : Int) + 64 ≤ (c4 : Int) := by omega
      have hx4 : ((i : Int) + 64).toNat = i + 64 := by omega
      have hdl : (((padL bv).drop i).take 64).length = 64 := by rw [List.length_take, List.length_drop, H.out.2.2.2.2.2, ← HN4.out]; omega
      have hr8 := fun w' hw' => rangeAt_grew (rangeAt_blk HG.out) w' hw'
      have hrK := fun w' hw' => rangeAt_grew (rangeAt_blk HW.out.2.1) w' hw'
      have hs64 : Sl wr (.slice (some ⟨b, o + i, none⟩) 64 (c4 - i)) (ofK .u8 (((padL bv).drop i).take 64)) := by
        have h1 := HW.out.1.drop i (by rw [length_ofK, H.out.2.2.2.2.2, ← HN4.out]; omega)
        rw [Option.map_some, Addr.add_mid] at h1
        have h2 := h1.take 64 (by rw [List.length_drop, length_ofK, H.out.2.2.2.2.2, ← HN4.out]; omega)
        rwa [drop_ofK, take_ofK] at h2
      have HR := Lib.hid (And.intro hr8 (And.intro hrK hs64))
      have HX := Lib.hid hdl
      clear hr8 hrK hs64 hdl
      go_wp2_with fail
      refine wp_region_grew_tail 8 (by kernel_rfl) (by kernel_rfl) ?_
      simp only [List.take_succ_cons, List.take_zero, List.drop_succ_cons, List.drop_zero]
      go_big_quiet_want
      refine quiet_load_mid 42 (.tmp 5) rfl s1 0 rfl (ofN hs) _ HR.out.1 Try.underlying42 rfl (HI.out.1 _ HC.out.2.2.1) ?_
      go_simp
      go_big_quiet_on
      repeat (first | go_big_quiet_skip | (go_big_quiet_want; go_big_quiet_op; go_big_quiet_on))
      go_big_quiet_want
      refine quiet_load_mid 46 (.tmp 4) rfl w.heap.size 0 rfl (ofN K) _ HR.out.2.1 Try.underlying46 rfl HI.out.2.1 ?_
      go_simp
      go_big_quiet_on
      go_big_quiet_want
      go_big_quiet_op
      apply Exists.intro
      refine ⟨fun _ => ?_, ?_⟩
      focus (go_at_call 46; exact calls_grew (rblock_any _ hs (((padL bv).drop i).take 64) K _ (HR.out.2.2.below (below_grew wr _) (Nat.le_refl _)) HX.out (allB_take (allB_drop (padL_allB H.out.2.1) i) 64) HC.out.2.2.1 HC.out.2.2.2.1 H.out.2.2.1))
      go_big_quiet_on
      refine wpQuiet_nil ?_
      intro w5 hw5
      obtain ⟨p, rfl⟩ := hw5
      have hbel := below_grew wr p
      have HG5 := Lib.hid (HG.out.below hbel HG.out.lt)
      have HW5 := Lib.hid (And.intro (HW.out.1.below hbel (Nat.le_refl _)) (And.intro (HW.out.2.1.below hbel HW.out.2.1.lt) (And.intro (HW.out.2.2.1.below hbel HW.out.2.2.1.lt) (below_thn HW.out.2.2.2 hbel (Nat.le_refl _)))))
      have hgood := blockN_length HC.out.2.2.1 HC.out.2.2.2.1 (allB_take (allB_drop (padL_allB H.out.2.1) i) 64)
      have h32 := blockN_32 hs (((padL bv).drop i).take 64)
      have hkm : k < m := by have h1 := HC.out.1; have h2 := HN4.out; omega
      have hch := HC.out.2.2.2.2
      rw [show m - k = (m - (k + 1)) + 1 by omega, show chainN hs ((m - (k + 1)) + 1) ((padL bv).drop i) = chainN (blockN hs (((padL bv).drop i).take 64)) (m - (k + 1)) (((padL bv).drop i).drop 64) from rfl, List.drop_drop] at hch
      have hik3 : i + 64 = 64 * (k + 1) := by rw [HC.out.1]; omega
      clear hbel HG HW HR HX
      generalize grew wr p = w5 at HG5 HW5 ⊢
      generalize blockN hs (((padL bv).drop i).take 64) = hs' at hgood h32 hch ⊢
      have HL := Lib.hid (show (ofN hs').length = (ofN hs).length by rw [ofN_length, ofN_length, hgood, HC.out.2.2.1])
      have HI2 := Lib.hid (HI.out.1 hs' hgood)
      have HK := Lib.hid (And.intro hik3 (And.intro hgood (And.intro h32 (And.intro hch hkm))))
      clear hgood h32 hch hik3 hkm HC
      refine wpList_store_blk _ rfl 42 (.tmp 5) (.tmp 26) rfl s1 42 (ofN hs) (ofN hs') HG5.out rfl rfl HL.out HI2.out (one_ofN _) ?_
      intro w6 hb6 hch6 hsz6
      have HG6 := Lib.hid hb6
      have HW6 := Lib.hid (And.intro (HW5.out.1.keep hch6 (fun k hk h => by have h2 : k = s1 := h; have h3 := HO2.out.2 k hk; have h4 := HS.out; omega)) (And.intro (HW5.out.2.1.keep hch6 (fun h => by have h2 : w.heap.size = s1 := h; have h4 := HS.out; omega)) (And.intro (HW5.out.2.2.1.keep hch6 (fun h => by have h2 : s2 = s1 := h; have h4 := HS.out; omega)) (below_ch HW5.out.2.2.2 hch6 (Nat.le_refl _) (fun k h => by have h2 : k = s1 := h; have h4 := HS.out; omega)))))
      clear hb6 hch6 hsz6 HG5 HW5 HL HI2
      go_wp2_with fail
      go_roundw
      case rel => exact ⟨i + 64, k + 1, hs', by go_num, by omega, by have h2 := HN4.out; have h3 := HK.out.1; have h4 := HK.out.2.2.2.2; omega, Lib.hid ⟨HK.out.1, HK.out.2.2.2.2, HK.out.2.1, HK.out.2.2.1, HK.out.2.2.2.1⟩, HG6, HW6⟩
      case measure => simp [intOf]; omega

end Go.Proofs.Ytkbhehnpgnilmaa
