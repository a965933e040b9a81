/-
  Crash, Pending, walked. Conditions: at most 2^30 writes and acts.
-/
import Derived.Test.YticcjaccpcnjhaaDkG
namespace Go.Proofs.Yticcjaccpcnjhaa
open Go Go.RowKit

theorem DkAt'.crashed {w : World} {p m : Nat} {lv : Value} {al fl : Int} {S : Nat → Prop} {x : Dk} (h : DkAt' w p m lv al fl S x) :
    DkAt' (((((w.setCell ⟨p, 0 + 3, none⟩ (.bool false)).setCell ⟨p, 0 + 4, none⟩ (.bool false)).setCell ⟨p, 0 + 4 + 1, none⟩ (.int .i64 0)).setCell ⟨p, 0 + 6, none⟩ (.bool false)).setCell ⟨p, 0 + 6 + 1, none⟩ (.int .i64 0)) p m lv 0 0 S { x with out := false, arms := -1, fails := -1 } ∧
      Ch (· = p) w (((((w.setCell ⟨p, 0 + 3, none⟩ (.bool false)).setCell ⟨p, 0 + 4, none⟩ (.bool false)).setCell ⟨p, 0 + 4 + 1, none⟩ (.int .i64 0)).setCell ⟨p, 0 + 6, none⟩ (.bool false)).setCell ⟨p, 0 + 6 + 1, none⟩ (.int .i64 0)) := by
  obtain ⟨h1, c1⟩ := h.outs false
  obtain ⟨h2, c2⟩ := h1.arm false 0 (-1) rfl (by simp)
  obtain ⟨h3, c3⟩ := h2.fail false 0 (-1) rfl (by simp)
  exact ⟨h3, (c1.trans c2).trans c3⟩

theorem crash_nil (ao : Option Addr) (len c : Nat) (w : World) : Calls Try.prog 15 #[.pointer none, .slice ao len c] w (fun e w' => e = .returned (.int .i64 1) ∧ Below w.heap.size w w') := by
  go_enter Try.func15, Try.ntmps15
  go_wp2
  go_ret
  exact ⟨rfl, (Below.refl _ _).alloc (Nat.le_refl _) _⟩

set_option maxRecDepth 100000 in
set_option maxHeartbeats 1000000 in
theorem crash_any (p : Nat) (S : Nat → Prop) (x : Dk) (ao : Option Addr) (len c : Nat) (bs : List Bool) (n : Nat) (w : World) (h : DkAt w p S x) (hx : x.Ok n) (hn : n ≤ 1073741824) (hs : Sl w (.slice ao len c) (bs.map Value.bool)) (hv : ∀ k, (Value.slice ao len c).ownBlock = some k → ¬ S k) :
    Calls Try.prog 15 #[.pointer (some ⟨p, 0, none⟩), .slice ao len c] w (ActP w p S (crashD bs x) (.int .i64 0)) := by
  have hnS : ¬ S w.heap.size := fun hs => by have := h.bd _ hs; omega
  obtain ⟨m, lv, al, fl, h⟩ := h
  have hb := (Below.refl w.heap.size w).alloc (Nat.le_refl _) (.cells #[.slice ao len c] 47)
  have hd := h.keep (Ch.of_below (S := fun _ => False) hb (Nat.le_refl _)) (fun _ _ h => h)
  have hbl := Blk.new w [.slice ao len c] 47
  have HS := Lib.hid (settle_go p S x (fun k => bs.getD k false) 40 [.pointer (some ⟨w.heap.size, 0, none⟩)] n _ m lv al fl hd hx hn run_callFunc40 (fun k w1 hk hc =>
    crashKeep w.heap.size k _ bs w1 (by have := hx.len; omega) ((hc.cell (p := ⟨w.heap.size, 0, none⟩) hbl.lt hnS).trans (hbl.cell 0)) ((hs.below hb (Nat.le_refl _)).keep hc hv)))
  have HB := Lib.hid (And.intro hb h.sp)
  clear h hx hn hs hv hd hbl hb hnS
  go_enter Try.func15, Try.ntmps15
  go_wp2_with fail
  refine HS.out.mono ?_
  rintro e w1 ⟨rfl, h1, h2⟩
  obtain ⟨m1, lv1, al1, fl1, h1'⟩ := h1
  have hC := h1'.crashed
  have hcs := h1'.blk.cs
  have e3 := hcs.f3
  have e4 := hcs.arms.f0
  have e5 := hcs.arms.f1
  have e6 := hcs.fails.f0
  have e7 := hcs.fails.f1
  have g3 := hcs.c3
  have g4 := hcs.arms.c0
  have g5 := hcs.arms.c1
  have g6 := hcs.fails.c0
  have g7 := hcs.fails.c1
  have H1 := Lib.hid (And.intro hC h2)
  have HP := Lib.hid h1'.sp
  clear h1' h2 hC hcs
  go_wp2_with fail
  go_ret
  refine ⟨rfl, DkAt.mono ⟨_, _, _, _, H1.out.1.1⟩ ?_ ?_, ((Ch.of_below HB.out.1 (Nat.le_refl _)).trans H1.out.2).trans (H1.out.1.2.mono (fun k hk => hk ▸ HB.out.2))⟩
  · rintro k (hk | ⟨k1, k2⟩)
    · exact .inl hk
    · rw [World.size_alloc] at k1
      exact .inr ⟨by omega, by simpa using k2⟩
  · rintro k (hk | ⟨k1, k2⟩)
    · exact H1.out.1.1.bd k (.inl hk)
    · exact k2

/-! Pending -/

theorem pending_nil (w : World) : Calls Try.prog 29 #[.pointer none] w (fun e w' => e = .returned (.slice none 0 0) ∧ w = w') := by
  go_enter Try.func29, Try.ntmps29
  go_wp2
  go_ret
  exact ⟨rfl, rfl⟩

theorem Try.infoInt : (Try.prog.info? 3).map (fun i => (i.zero, i.size, i.bytes)) = some (some (.int .i64 0), 1, 8) := by kernel_rfl

theorem cell_one_new' (w : World) (u : Value) (t : TypeId) : ∀ j v, ([u] : List Value)[j]? = some v → (w.alloc (.cells #[u] t)).cell? ((⟨w.heap.size, 0, none⟩ : Addr).add j) = some v := by
  intro j v hv
  have hj : j = 0 := by
    have := (List.getElem?_eq_some_iff.1 hv).1
    simpa using this
  subst hj
  have := (Blk.new w [u] t).cell 0
  simpa [Addr.add] using this.trans hv

/-- a row of the call's own -/
def RowP (w : World) (xs : List Int) (n : Nat) (e : Ending) (w' : World) : Prop := ∃ v, e = .returned v ∧ w'.ownsRow w.heap.size 3 1 v n (ofK .i64 xs) ∧ Below w.heap.size w w'

def wrAts (l : List Wr) : List Int := l.map (·.1)

set_option maxRecDepth 100000 in
set_option maxHeartbeats 2000000 in
theorem pending_any (p : Nat) (S : Nat → Prop) (x : Dk) (n L : Nat) (w : World) (h : DkAt w p S x) (hx : x.Ok n) (hn : n ≤ 1073741824) (hL : L = x.loose.length) :
    Calls Try.prog 29 #[.pointer (some ⟨p, 0, none⟩)] w (RowP w (wrAts x.loose) L) := by
  obtain ⟨i0, hi, hz0, hz1, hz2⟩ := info_parts Try.infoInt
  obtain ⟨m, lv, al, fl, h⟩ := h
  obtain ⟨ao, cp, rfl, hrow⟩ := own_wr h.row hx.looseB
  have hlen : L ≤ 1073741824 := by rw [hL]; exact Nat.le_trans hx.len hn
  have d2 := h.blk.cs.c2
  rw [← hL] at d2
  have H := Lib.hid (And.intro hx.looseB (And.intro hrow hL))
  clear h hx hn hrow hL
  go_enter Try.func29, Try.ntmps29
  go_wp2_with fail
  go_loopw [3, 5, 14] (fun out u5 i wr => ∃ k : Nat, k ≤ L ∧ i = .int .i64 k ∧ Hid (wr.ownsRow w.heap.size 3 1 out k (ofK .i64 (wrAts (x.loose.take k))) ∧ Below w.heap.size w wr)) (fun _ _ i _ => L - (intOf i).toNat)
  case atStart => exact ⟨0, Nat.zero_le _, rfl, Lib.hid ⟨World.ownsRow_nil _ _ _ _, Below.refl _ _⟩⟩
  case round =>
    obtain ⟨k, hk, rfl, HR⟩ := hrel
    by_cases hlt : k < L
    · have hkl : k < x.loose.length := by rw [← H.out.2.2]; exact hlt
      obtain ⟨g, rfl, hr⟩ := H.out.2.1 (by omega)
      obtain ⟨E, hE⟩ : ∃ E, E = x.loose.getD k (0, zer) := ⟨_, rfl⟩
      have hEk : E = x.loose[k] := by rw [hE, List.getD_eq_getElem?_getD, List.getElem?_eq_getElem hkl]; rfl
      have hr1 : wr.rangeAt g (k * 65) (wrC E) := by rw [hEk]; exact rangeW_below (hr k hkl) HR.out.2
      have hEB : IsB E.2 := by rw [hEk]; exact H.out.1 _ (List.getElem_mem hkl)
      have hnx : ofK .i64 (wrAts (x.loose.take (k + 1))) = ofK .i64 (wrAts (x.loose.take k)) ++ [.int .i64 E.1] := by
        rw [List.take_succ_eq_append_getElem hkl, hEk]
        unfold wrAts ofK
        rw [List.map_append, List.map_append]; rfl
      have HE := Lib.hid (And.intro hE (And.intro hEB hnx))
      have HW := Lib.hid (show (Try.prog.info? 84).map (·.size) = some (wrC E).length from by rw [wrC_len hEB]; kernel_rfl)
      have HLn := Lib.hid (show (wrC E).length = ((.int .i64 0 :: ofK .u8 zer) : List Value).length from by rw [wrC_len hEB]; rfl)
      have HH := Lib.hid hr1
      clear hE hEB hEk hkl hr hr1 hnx
      go_wp2_with (first
        | (with_reducible refine wpList_load_any rfl 84 (.tmp 16) rfl g (k * 65) rfl (wrC E) _ HH.out Try.underlying84 rfl HW.out ?_)
        | ((with_reducible refine wpList_alloc_blk _ rfl 84 rfl (.int .i64 0 :: ofK .u8 zer) Try.zeroWr ?_); intro w2 hb2 hbel2 hsz2; have HB2 := Lib.hid (And.intro hb2 (And.intro hbel2 hsz2)); clear hb2 hbel2 hsz2)
        | ((with_reducible refine wpList_store_blk _ rfl 84 (.tmp 5) (.tmp 17) rfl wr.heap.size 84 (.int .i64 0 :: ofK .u8 zer) (wrC E) HB2.out.1 rfl rfl HLn.out HW.out (one_wrC E) ?_); intro w3 hb3 hch3 hsz3; have hc30 : w3.cell? ⟨wr.heap.size, 0, none⟩ = some (.int .i64 E.1) := hb3.cell 0; have HB3 := Lib.hid (show Below wr.heap.size wr w3 from below_ch HB2.out.2.1 hch3 (Nat.le_refl _) (fun k hk => by have : k = wr.heap.size := hk; omega)); have HO3 := Lib.hid (own_ch HR.out.1 (Ch.of_below (S := fun _ => False) HB3.out (Nat.le_refl _)) (fun _ _ h => h)); clear hb3 hch3 hsz3)
        | (at_builtin; refine wpList_append_own _ rfl (.tmp 18) (.tmp 21) 56 rfl w.heap.size 3 i0 (.int .i64 0) 1 8 Try.underlying56 hi hz0 hz1 hz2 rfl (by decide) u3 k _ rfl (HO3.out.alloc _) ⟨w3.heap.size, 0, none⟩ 1 1 [.int .i64 E.1] rfl rfl ?_ ?_ ?_ ?_ ?_ ?_))
      · exact cell_one_new' _ _ _
      · simp [Value.oneCell']
      · unfold maxLen; omega
      · omega
      · have := HR.out.2.size; have := HB3.out.size; simp; omega
      · intro v4 w4 hown4 hgr4 _
        have hb4 : Below w.heap.size w w4 := ((below_thn HR.out.2 HB3.out (Nat.le_refl _)).alloc (by have := HR.out.2.size; have := HB3.out.size; omega) _).grown hgr4 (by have := HR.out.2.size; have := HB3.out.size; simp; omega) (fun k hk => (HO3.out.lt k hk).1)
        have H4 := Lib.hid (And.intro hown4 hb4)
        clear hown4 hgr4 hb4
        go_wp2_with fail
        go_roundw
        case rel => exact ⟨k + 1, by omega, by go_num, Lib.hid (by rw [HE.out.2.2]; exact H4.out)⟩
        case measure => simp [intOf]; omega
    · obtain rfl : k = L := by omega
      go_wp2_with fail
      go_ret
      refine ⟨_, rfl, ?_, HR.out.2⟩
      have := HR.out.1
      rw [List.take_of_length_le (by rw [← H.out.2.2]; exact Nat.le_refl _)] at this
      exact this

end Go.Proofs.Yticcjaccpcnjhaa
