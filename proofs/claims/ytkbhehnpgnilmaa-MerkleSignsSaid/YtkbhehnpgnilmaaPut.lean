/-
  The functions of package octet that lay numbers, and Equal and Zero, walked. Conditions: lengths within the form's reach.
-/
import Derived.Test.YtkbhehnpgnilmaaOct
namespace Go.Proofs.Ytkbhehnpgnilmaa
open Go Go.RowKit

/-- byte k of a number in so many bytes -/
def beAt (x : Int) (width k : Nat) : Int := x / 2 ^ (8 * (width - 1 - k)) % 256

def beF (x : Int) (width : Nat) : List Int := (List.range width).map (beAt x width)

/-- a new row of n numbers is handed back -/
def NewRow (w : World) (out : List Int) (n : Nat) (e : Ending) (w' : World) : Prop :=
  ∃ ao c, e = .returned (.slice ao n c) ∧ w'.ownsRow w.heap.size 5 1 (.slice ao n c) n (ofK .u8 out) ∧ Below w.heap.size w w'

/-- the row behind k rounds -/
def layTo (x : Int) (width k : Nat) : List Int := (List.range width).map fun j => if j < k then beAt x width j else 0

theorem splice_lay (bs : List Int) (x : Int) (width : Nat) : splice (List.replicate (bs.length + width) (Value.int IntKind.u8 0)) 0 (ofK IntKind.u8 bs) = ofK .u8 (bs ++ layTo x width 0) := by
  unfold splice layTo ofK
  simp only [List.take_zero, List.nil_append, Nat.zero_add, List.length_map, List.drop_replicate, List.map_append, Nat.add_sub_cancel_left]
  congr 1
  apply List.ext_getElem <;> simp

theorem layTo_succ (bs : List Int) (x : Int) (width k : Nat) : (ofK .u8 (bs ++ layTo x width k)).set (bs.length + k) (Value.int IntKind.u8 (beAt x width k)) = ofK .u8 (bs ++ layTo x width (k + 1)) := by
  unfold ofK
  rw [← List.map_set, List.set_append_right _ _ (by omega), Nat.add_sub_cancel_left]
  congr 2
  unfold layTo
  apply List.ext_getElem
  · simp
  · intro i h1 h2
    simp only [List.getElem_set, List.getElem_map, List.getElem_range]
    by_cases e : k = i
    · subst e; simp
    · rw [if_neg e]
      by_cases h3 : i < k
      · rw [if_pos h3, if_pos (by omega)]
      · rw [if_neg h3, if_neg (by omega)]

theorem layTo_all (x : Int) (width : Nat) : layTo x width width = beF x width := by
  unfold layTo beF
  apply List.ext_getElem
  · simp
  · intro i h1 h2
    simp at h2
    simp [h2]

theorem newRow_of_blk {w wr : World} {out : List Int} {n : Nat} (h : Blk wr w.heap.size 5 (ofK .u8 out)) (hn : out.length = n) (hb : Below w.heap.size w wr) (hm : out.length ≤ maxLen) :
    NewRow w out n (.returned (.slice (some ⟨w.heap.size, 0, none⟩) n n)) wr := by
  subst hn
  have := h.owns (Nat.le_refl _) (by rw [length_ofK]; exact hm)
  rw [length_ofK] at this
  exact ⟨_, _, rfl, this, hb⟩

theorem Try.size5 : (Try.prog.info? 5).map (·.size) = some 1 := by kernel_rfl

set_option maxHeartbeats 1000000 in
theorem lay32_any (v : Value) (bs : List Int) (x : Int) (width : Nat) (w : World) (hs : Sl w v (ofK .u8 bs)) (hl : bs.length ≤ 140737488351232) (hw : width ≤ 8) (hx : 0 ≤ x ∧ x ≤ 4294967295) :
    Calls Try.prog 111 #[v, .int .u32 x, .int .i64 width] w (NewRow w (bs ++ beF x width) (bs.length + width)) := by
  obtain ⟨i0, hi, hz0, hz1, hz2⟩ := info_parts Try.info5
  obtain ⟨ao, c, rfl, h2, h3, h4⟩ := hs.shape
  rw [length_ofK] at h2 h4 hs ⊢
  unfold maxLen at h3
  go_enter Try.func111, Try.ntmps111
  go_wp2_with (first | (at_make; refine wpList_make_blk _ rfl _ _ 33 rfl 5 i0 (.int .u8 0) Try.underlying33 hi hz0 hz1 rfl _ _ _ _ (bs.length + width) rfl rfl (by omega) (by omega) ?_ ?_ ?_))
  · rw [hz2]; omega
  · unfold maxLen; omega
  · intro w1 hblk hbel hsz
    have hs1 := hs.below hbel (Nat.le_refl _)
    clear hs h4
    go_wp2_with (with_reducible refine wpList_copy_blk _ rfl (.tmp 14) (.tmp 15) 33 33 rfl 5 Try.underlying33 Try.size5 w.heap.size 0 (bs.length + width) (bs.length + width) rfl (.slice ao bs.length c) rfl (ofK .u8 bs) hs1 _ _ hblk ?_ ?_ (one_ofK _ _) ?_)
    · simp [ofK]
    · simp [ofK]
    · intro w2 hblk2 hch2
      have e0 : splice (List.replicate (bs.length + width) (Value.int IntKind.u8 0)) 0 (ofK IntKind.u8 bs) = ofK .u8 (bs ++ layTo x width 0) := splice_lay bs x width
      rw [e0] at hblk2
      have hb2 : Below w.heap.size w w2 := ⟨hch2.os.trans hbel.os, hch2.tape.trans hbel.tape, hch2.output.trans hbel.output, Nat.le_trans hbel.size hch2.size, fun k hk => (hch2.block k (by omega) (by omega)).trans (hbel.block k hk)⟩
      clear hblk hs1 hch2 hbel e0
      go_wp2
      go_loopw [18] (fun i wr => ∃ k : Nat, k ≤ width ∧ i = .int .i64 k ∧ Blk wr w.heap.size 5 (ofK .u8 (bs ++ layTo x width k)) ∧ Below w.heap.size w wr) (fun i _ => width - (intOf i).toNat)
      case atStart => exact ⟨0, Nat.zero_le _, rfl, hblk2, hb2⟩
      case round =>
        obtain ⟨k, hk, rfl, hblk, hbel⟩ := hrel
        by_cases hlt : k < width
        · have hc1 : wr.cell? ⟨w.heap.size, bs.length + k, none⟩ = some (.int .u8 0) := by
            rw [hblk.cell, get_ofK _ _ _ (by simp [layTo]; omega)]
            simp [layTo]
          have hf1 := hblk.free (bs.length + k)
          have hst := hblk.set (bs.length + k) (.int .u8 (beAt x width k))
          have HS := Lib.hid hst
          clear hst hblk2 hblk
          go_wp2
          go_roundw
          case rel => exact ⟨k + 1, by omega, by go_num, by rw [← layTo_succ bs x width k]; exact HS.out, hbel.setCell (Nat.le_refl _) _⟩
          case measure => simp [intOf]; omega
        · obtain rfl : k = width := by omega
          go_wp2
          go_ret
          rw [layTo_all] at hblk
          exact newRow_of_blk hblk (by simp [beF]) hbel (by simp [beF]; unfold maxLen; omega)

theorem put32_any (v : Value) (bs : List Int) (x : Int) (n : Nat) (w : World) (hs : Sl w v (ofK .u8 bs)) (hl : bs.length ≤ 140737488351232) (hx : 0 ≤ x ∧ x ≤ 4294967295) (hn : bs.length + 4 = n) :
    Calls Try.prog 88 #[v, .int .u32 x] w (NewRow w (bs ++ beF x 4) n) := by
  subst hn
  have HC := Lib.hid (lay32_any v bs x 4 w hs hl (by omega) hx)
  clear hs
  go_enter Try.func88, Try.ntmps88
  go_wp2_with (go_at_call 111; refine HC.out.mono ?_; rintro e w' ⟨ao, c, rfl, h1, h2⟩)
  go_ret
  exact ⟨ao, c, rfl, h1, h2⟩

set_option maxHeartbeats 1000000 in
theorem lay64_any (v : Value) (bs : List Int) (x : Int) (width : Nat) (w : World) (hs : Sl w v (ofK .u8 bs)) (hl : bs.length ≤ 140737488351232) (hw : width ≤ 8) (_hx : 0 ≤ x) :
    Calls Try.prog 112 #[v, .int .u64 x, .int .i64 width] w (NewRow w (bs ++ beF x width) (bs.length + width)) := by
  obtain ⟨i0, hi, hz0, hz1, hz2⟩ := info_parts Try.info5
  obtain ⟨ao, c, rfl, h2, h3, h4⟩ := hs.shape
  rw [length_ofK] at h2 h4 hs ⊢
  unfold maxLen at h3
  go_enter Try.func112, Try.ntmps112
  go_wp2_with (first | (at_make; refine wpList_make_blk _ rfl _ _ 33 rfl 5 i0 (.int .u8 0) Try.underlying33 hi hz0 hz1 rfl _ _ _ _ (bs.length + width) rfl rfl (by omega) (by omega) ?_ ?_ ?_))
  · rw [hz2]; omega
  · unfold maxLen; omega
  · intro w1 hblk hbel hsz
    have hs1 := hs.below hbel (Nat.le_refl _)
    clear hs h4
    go_wp2_with (with_reducible refine wpList_copy_blk _ rfl (.tmp 14) (.tmp 15) 33 33 rfl 5 Try.underlying33 Try.size5 w.heap.size 0 (bs.length + width) (bs.length + width) rfl (.slice ao bs.length c) rfl (ofK .u8 bs) hs1 _ _ hblk ?_ ?_ (one_ofK _ _) ?_)
    · simp [ofK]
    · simp [ofK]
    · intro w2 hblk2 hch2
      have e0 : splice (List.replicate (bs.length + width) (Value.int IntKind.u8 0)) 0 (ofK IntKind.u8 bs) = ofK .u8 (bs ++ layTo x width 0) := splice_lay bs x width
      rw [e0] at hblk2
      have hb2 : Below w.heap.size w w2 := ⟨hch2.os.trans hbel.os, hch2.tape.trans hbel.tape, hch2.output.trans hbel.output, Nat.le_trans hbel.size hch2.size, fun k hk => (hch2.block k (by omega) (by omega)).trans (hbel.block k hk)⟩
      clear hblk hs1 hch2 hbel e0
      go_wp2
      go_loopw [18] (fun i wr => ∃ k : Nat, k ≤ width ∧ i = .int .i64 k ∧ Blk wr w.heap.size 5 (ofK .u8 (bs ++ layTo x width k)) ∧ Below w.heap.size w wr) (fun i _ => width - (intOf i).toNat)
      case atStart => exact ⟨0, Nat.zero_le _, rfl, hblk2, hb2⟩
      case round =>
        obtain ⟨k, hk, rfl, hblk, hbel⟩ := hrel
        by_cases hlt : k < width
        · have hc1 : wr.cell? ⟨w.heap.size, bs.length + k, none⟩ = some (.int .u8 0) := by
            rw [hblk.cell, get_ofK _ _ _ (by simp [layTo]; omega)]
            simp [layTo]
          have hf1 := hblk.free (bs.length + k)
          have hst := hblk.set (bs.length + k) (.int .u8 (beAt x width k))
          have HS := Lib.hid hst
          clear hst hblk2 hblk
          go_wp2
          go_roundw
          case rel => exact ⟨k + 1, by omega, by go_num, by rw [← layTo_succ bs x width k]; exact HS.out, hbel.setCell (Nat.le_refl _) _⟩
          case measure => simp [intOf]; omega
        · obtain rfl : k = width := by omega
          go_wp2
          go_ret
          rw [layTo_all] at hblk
          exact newRow_of_blk hblk (by simp [beF]) hbel (by simp [beF]; unfold maxLen; omega)

theorem put64_any (v : Value) (bs : List Int) (x : Int) (n : Nat) (w : World) (hs : Sl w v (ofK .u8 bs)) (hl : bs.length ≤ 140737488351232) (hx : 0 ≤ x) (hn : bs.length + 8 = n) :
    Calls Try.prog 89 #[v, .int .u64 x] w (NewRow w (bs ++ beF x 8) n) := by
  subst hn
  have HC := Lib.hid (lay64_any v bs x 8 w hs hl (by omega) hx)
  clear hs
  go_enter Try.func89, Try.ntmps89
  go_wp2_with (go_at_call 112; refine HC.out.mono ?_; rintro e w' ⟨ao, c, rfl, h1, h2⟩)
  go_ret
  exact ⟨ao, c, rfl, h1, h2⟩

def zeroB (bs : List Int) : Bool := bs.all (· == 0)

theorem zeroB_take {bs : List Int} {k : Nat} (h : k < bs.length) (hz : bs[k] ≠ 0) : zeroB bs = false := by
  unfold zeroB
  rw [List.all_eq_false]
  exact ⟨bs[k], List.getElem_mem h, by simpa using hz⟩

theorem u32_of (b r : Nat) (bs : List Int) (why : Int) (w : World) (x : Int) (bs' : List Int) (why' : Int) (hr : Rd w b r bs why) (hrl : r < w.heap.size) (hb : AllB bs) (hx : IntKind.u32.wrap (numF (takeF bs why 4).2.2) = x) (h1 : (takeF bs why 4).1 = bs') (h2 : (takeF bs why 4).2.1 = why') :
    Calls Try.prog 96 #[.pointer (some ⟨b, 0, none⟩)] w (fun e w' => e = .returned (.int .u32 x) ∧ Rd w' b r bs' why' ∧ Ch (· = b) w w') := by
  subst hx h1 h2
  exact u32_any b r bs why w hr hrl hb

theorem put32_of (v : Value) (bs : List Int) (x : Int) (out : List Int) (n : Nat) (w : World) (hs : Sl w v (ofK .u8 bs)) (hl : bs.length ≤ 140737488351232) (hx : 0 ≤ x ∧ x ≤ 4294967295) (hn : bs.length + 4 = n) (ho : bs ++ beF x 4 = out) :
    Calls Try.prog 88 #[v, .int .u32 x] w (NewRow w out n) := by
  subst ho; exact put32_any v bs x n w hs hl hx hn

theorem put64_of (v : Value) (bs : List Int) (x : Int) (out : List Int) (n : Nat) (w : World) (hs : Sl w v (ofK .u8 bs)) (hl : bs.length ≤ 140737488351232) (hx : 0 ≤ x) (hn : bs.length + 8 = n) (ho : bs ++ beF x 8 = out) :
    Calls Try.prog 89 #[v, .int .u64 x] w (NewRow w out n) := by
  subst ho; exact put64_any v bs x n w hs hl hx hn

end Go.Proofs.Ytkbhehnpgnilmaa
