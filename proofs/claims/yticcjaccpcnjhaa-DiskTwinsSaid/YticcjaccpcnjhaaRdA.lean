/-
  The reference's disk, by value: New and Holds walked. Conditions: at most 2^30 lines.
-/
import Derived.Test.YticcjaccpcnjhaaChoose
namespace Go.Proofs.Yticcjaccpcnjhaa
open Go Go.RowKit

/-- the reference's disk, as its cells -/
def rC (x : Dk) (fm : Nat) (sv : Value) : List Value := [.int .i64 x.size, .int .i64 fm, sv, .bool x.out, .int .i64 x.arms, .int .i64 x.fails, .int .i64 x.ops]
def rZ : List Value := [.int .i64 0, .int .i64 0, .slice none 0 0, .bool false, .int .i64 0, .int .i64 0, .int .i64 0]

/-- a row of lines -/
def StAt (w : World) (sv : Value) (st : List Wr) : Prop :=
  ∃ ao c, sv = .slice ao st.length c ∧ st.length ≤ c ∧ c ≤ 9223372036854775807 ∧ (0 < st.length → ∃ g o, ao = some ⟨g, o, none⟩ ∧ ∀ k (hk : k < st.length), w.rangeAt g (o + k * 65) (wrC st[k])) ∧ (ao = none → c = 0)

theorem StAt.below {w w' : World} {sv : Value} {st : List Wr} (h : StAt w sv st) (hb : Below w.heap.size w w') : StAt w' sv st := by
  obtain ⟨ao, c, h1, h2, h3, h4, h7⟩ := h
  exact ⟨ao, c, h1, h2, h3, fun h0 => by
    obtain ⟨g, o, h5, h6⟩ := h4 h0
    exact ⟨g, o, h5, fun k hk => rangeW_below (h6 k hk) hb⟩, h7⟩

/-- the story st, of which fm lines are firm, tells the disk x -/
structure RefOf (x : Dk) (st : List Wr) (fm : Nat) : Prop where
  le : fm ≤ st.length
  loose : x.loose = st.drop fm
  firm : ∀ i, x.firm i = (st.take fm).foldl lay (fun _ => zer) i
  blk : ∀ e ∈ st, IsB e.2

theorem foldl_lay_at : ∀ (l : List Wr) {f g : Int → List Int}, (∀ i, f i = g i) → ∀ i, l.foldl lay f i = l.foldl lay g i
  | [], _, _, h, i => h i
  | e :: l, _, _, h, i => foldl_lay_at l (fun j => lay_congr h e j) i

theorem RefOf.holds {x : Dk} {st : List Wr} {fm : Nat} (h : RefOf x st fm) (i : Int) : x.holds i = st.foldl lay (fun _ => zer) i := by
  unfold Dk.holds
  rw [h.loose, foldl_lay_at _ h.firm, ← List.foldl_append, List.take_append_drop]

theorem Try.infoRd : (Try.prog.info? 30).map (·.size) = some 7 := by kernel_rfl
theorem Try.zeroRd : ∀ w, (zeroValue 30).run Try.prog w = .ok (.agg rZ.toArray) w := fun w => by kernel_rfl
theorem Try.infoLn : (Try.prog.info? 81).map (fun i => (i.zero, i.size, i.bytes)) = some (some (.agg (.int .i64 0 :: ofK .u8 zer).toArray), 65, 72) := by kernel_rfl
theorem Try.sizeLn' : (Try.prog.info? 81).map (·.size) = some 65 := by kernel_rfl
theorem Try.zeroLn : ∀ w, (zeroValue 81).run Try.prog w = .ok (.agg (wrC (0, zer)).toArray) w := fun w => by kernel_rfl
theorem infoL {e : Wr} (h : IsB e.2) : (Try.prog.info? 81).map (·.size) = some (wrC e).length := by rw [wrC_len h]; exact Try.sizeLn'
theorem lenL {e : Wr} (h : IsB e.2) : (wrC e).length = (wrC (0, zer)).length := by rw [wrC_len h, wrC_len (e := (0, zer)) isB_zer]
theorem infoR (x : Dk) (fm : Nat) (sv : Value) : (Try.prog.info? 30).map (·.size) = some (rC x fm sv).length := Try.infoRd
theorem lenR (x : Dk) (fm : Nat) (sv : Value) : (rC x fm sv).length = rZ.length := rfl
theorem oneR (x : Dk) (fm : Nat) (ao : Option Addr) (len cp : Nat) : ∀ v ∈ rC x fm (.slice ao len cp), v.oneCell' = true := by
  intro v hv
  simp only [rC, List.mem_cons, List.not_mem_nil, or_false] at hv
  rcases hv with rfl | rfl | rfl | rfl | rfl | rfl | rfl <;> rfl

/-- how the block stands after k lines -/
def upto (st : List Wr) (i : Int) (k : Nat) : List Int := (st.take k).foldl lay (fun _ => zer) i
theorem upto_step {st : List Wr} {i : Int} {k : Nat} (hk : k < st.length) : upto st i (k + 1) = if i = st[k].1 then st[k].2 else upto st i k := by
  unfold upto
  rw [List.take_add_one, List.getElem?_eq_getElem hk, List.foldl_append]; rfl
theorem isB_upto {st : List Wr} (h : ∀ e ∈ st, IsB e.2) (i : Int) (k : Nat) : IsB (upto st i k) := foldl_lay_B _ _ (fun _ => isB_zer) (fun e he => h e (List.mem_of_mem_take he)) i

set_option maxRecDepth 100000 in
set_option maxHeartbeats 4000000 in
theorem rholds_any (x : Dk) (fm : Nat) (sv : Value) (st : List Wr) (at_ : Int) (w : World) (hs : StAt w sv st) (hB : ∀ e ∈ st, IsB e.2) (hl : st.length ≤ 1073741824) :
    Calls Try.prog 18 #[.agg (rC x fm sv).toArray, .int .i64 at_] w (HoldP w (st.foldl lay (fun _ => zer) at_)) := by
  obtain ⟨ao, c, rfl, hlc, hc63, hcell, _⟩ := hs
  have HS := Lib.hid (And.intro hcell hB)
  have HIz := Lib.hid (infoB isB_zer)
  have HBu := Lib.hid (fun k => isB_upto hB at_ k)
  clear hcell hB
  go_enter Try.func18, Try.ntmps18
  go_wp2_with (first
    | (with_reducible refine wpList_box_blk w rfl 30 (.tmp 0) rfl (rC x fm (.slice ao st.length c)) rfl ?_; intro w1 hb1 hbel1 hsz1; have HB1 := Lib.hid (And.intro hb1 (And.intro hbel1 hsz1)); clear hb1 hbel1 hsz1)
    | ((with_reducible refine wpList_alloc_blk w1 rfl 39 rfl (ofK .u8 zer) Try.zeroBl ?_); intro w2 hb hbel hsz; have HB2 := Lib.hid (And.intro hb (And.intro hbel (And.intro hsz (HB1.out.1.below hbel HB1.out.1.lt)))); clear hb hbel hsz)
    | ((with_reducible refine wpList_alloc_blk w2 rfl 39 rfl (ofK .u8 zer) Try.zeroBl ?_); intro w3 hb hbel hsz; have HB3 := Lib.hid (And.intro hb (And.intro (HB2.out.1.below hbel HB2.out.1.lt) (And.intro (HB2.out.2.2.2.below hbel HB2.out.2.2.2.lt) (And.intro (show Below w.heap.size w w3 from below_thn (below_thn HB1.out.2.1 HB2.out.2.1 (Nat.le_refl _)) hbel (Nat.le_refl _)) (show w.heap.size < w1.heap.size ∧ w1.heap.size < w2.heap.size ∧ w2.heap.size < w3.heap.size from ⟨by have := HB1.out.2.2; omega, by have := HB2.out.2.2.1; omega, by omega⟩))))); have c2 := HB3.out.2.2.1.cell 2; clear hb hbel hsz; simp only [rC, List.getElem?_cons_succ, List.getElem?_cons_zero] at c2))
  have hz := HB3.out.2.2.2.2
  have HZ := Lib.hid hz
  have HJ := Lib.hid (show ∀ k, upto st at_ k = upto st at_ k from fun _ => rfl)
  have HST := Lib.hid (show Blk w3 w2.heap.size 39 (ofK .u8 (upto st at_ 0)) ∧ Blk w3 w1.heap.size 39 (ofK .u8 zer) ∧ Below w.heap.size w w3 from ⟨HB3.out.1, HB3.out.2.1, HB3.out.2.2.2.1⟩)
  have h20 : w2.heap.size < w3.heap.size := hz.2.2
  have h12 : w1.heap.size < w2.heap.size := hz.2.1
  have h01 : w.heap.size < w1.heap.size := hz.1
  clear hz HB1 HB2 HB3 c2 HJ HZ
  go_loopw [11] (fun c wr => ∃ (k : Nat), k ≤ st.length ∧ c = .int .i64 k ∧ w2.heap.size < wr.heap.size ∧ Hid (Blk wr w2.heap.size 39 (ofK .u8 (upto st at_ k)) ∧ Blk wr w1.heap.size 39 (ofK .u8 zer) ∧ Below w.heap.size w wr)) (fun c _ => st.length - (intOf c).toNat)
  case atStart => exact ⟨0, by omega, rfl, h20, HST⟩
  case round =>
    obtain ⟨k, hk, rfl, h2r, HR⟩ := hrel
    clear HST h20
    by_cases hlt : k < st.length
    · obtain ⟨g, o, rfl, hcell⟩ := HS.out.1 (by omega)
      have hcl := hcell k hlt
      have hEB := HS.out.2 st[k] (List.getElem_mem hlt)
      have hst := upto_step (i := at_) hlt
      generalize st[k] = e at hcl hEB hst
      have HC := Lib.hid (rangeW_below hcl HR.out.2.2)
      have HI := Lib.hid (infoL hEB)
      have HL := Lib.hid (lenL hEB)
      have HIB := Lib.hid (infoB hEB)
      have HLB := Lib.hid (show (ofK .u8 e.2).length = (ofK .u8 (upto st at_ k)).length from by rw [length_ofK, length_ofK, hEB.1, (HBu.out k).1])
      have HST := Lib.hid hst
      clear hcl hcell hEB hst
      have hk0 : (0 : Int) ≤ (k : Int) := by omega
      have hk1 : (k : Int) < (st.length : Int) := by omega
      by_cases he : e.1 = at_
      · have he' : (e.1 == at_) = true := by simpa using he
        go_wp2_with (first
          | (with_reducible refine wpList_load_any rfl 81 (.tmp 13) rfl g (o + k * 65) rfl (wrC e) _ HC.out Try.underlying81 rfl HI.out ?_)
          | ((with_reducible refine wpList_alloc_blk wr rfl 81 rfl (wrC (0, zer)) Try.zeroLn ?_); intro w5 hb hbel hsz; have H5 := Lib.hid (And.intro hb (And.intro hbel hsz)); clear hb hbel hsz)
          | ((with_reducible refine wpList_store_blk w5 rfl 81 (.tmp 7) (.tmp 14) rfl wr.heap.size 81 (wrC (0, zer)) (wrC e) H5.out.1 rfl rfl HL.out HI.out (one_wrC e) ?_); intro w6 hb hc hs; have hw6 : Below wr.heap.size wr w6 := below_ch H5.out.2.1 hc (Nat.le_refl _) (fun k hk => by have : k = wr.heap.size := hk; omega); have H6 := Lib.hid (And.intro hb (And.intro (HR.out.1.below hw6 HR.out.1.lt) (And.intro (HR.out.2.1.below hw6 HR.out.2.1.lt) (And.intro (below_thn HR.out.2.2 hw6 (Nat.le_refl _)) hw6.size)))); have d0 := hb.cell 0; simp only [wrC, List.getElem?_cons_zero] at d0; have HR6 := Lib.hid (show w6.rangeAt wr.heap.size 1 (ofK .u8 e.2) from fun j v hv => by rw [hb.cell, Nat.add_comm]; exact hv); clear hb hc hs hw6)
          | (with_reducible refine wpList_load_any rfl 39 (.tmp 19) rfl wr.heap.size 1 rfl (ofK .u8 e.2) _ HR6.out Try.underlying39 rfl HIB.out ?_)
          | ((with_reducible refine wpList_store_blk w6 rfl 39 (.tmp 5) (.tmp 20) rfl w2.heap.size 39 (ofK .u8 (upto st at_ k)) (ofK .u8 e.2) H6.out.2.1 rfl rfl HLB.out HIB.out (one_ofK _ _) ?_); intro w7 hb hc hs; have H7 := Lib.hid (And.intro hb (And.intro hc hs)); clear hb hc hs d0))
        go_roundw
        case rel =>
          refine ⟨k + 1, by omega, by go_num, by have := H7.out.2.2; have := H6.out.2.2.2.2; omega, Lib.hid ⟨?_, H6.out.2.2.1.keep H7.out.2.1 (fun (e : w1.heap.size = w2.heap.size) => by omega), below_ch H6.out.2.2.2.1 H7.out.2.1 (Nat.le_refl _) (fun k hk => by have : k = w2.heap.size := hk; omega)⟩⟩
          rw [HST.out, if_pos he.symm]; exact H7.out.1
        case measure => simp [intOf]; omega
      · have he' : (e.1 == at_) = false := by simpa using he
        go_wp2_with (first
          | (with_reducible refine wpList_load_any rfl 81 (.tmp 13) rfl g (o + k * 65) rfl (wrC e) _ HC.out Try.underlying81 rfl HI.out ?_)
          | ((with_reducible refine wpList_alloc_blk wr rfl 81 rfl (wrC (0, zer)) Try.zeroLn ?_); intro w5 hb hbel hsz; have H5 := Lib.hid (And.intro hb (And.intro hbel hsz)); clear hb hbel hsz)
          | ((with_reducible refine wpList_store_blk w5 rfl 81 (.tmp 7) (.tmp 14) rfl wr.heap.size 81 (wrC (0, zer)) (wrC e) H5.out.1 rfl rfl HL.out HI.out (one_wrC e) ?_); intro w6 hb hc hs; have hw6 : Below wr.heap.size wr w6 := below_ch H5.out.2.1 hc (Nat.le_refl _) (fun k hk => by have : k = wr.heap.size := hk; omega); have H6 := Lib.hid (And.intro hb (And.intro (HR.out.1.below hw6 HR.out.1.lt) (And.intro (HR.out.2.1.below hw6 HR.out.2.1.lt) (And.intro (below_thn HR.out.2.2 hw6 (Nat.le_refl _)) hw6.size)))); have d0 := hb.cell 0; simp only [wrC, List.getElem?_cons_zero] at d0; clear hb hc hs hw6))
        go_roundw
        case rel =>
          refine ⟨k + 1, by omega, by go_num, by have := H6.out.2.2.2.2; omega, Lib.hid ⟨?_, H6.out.2.2.1, H6.out.2.2.2.1⟩⟩
          rw [HST.out, if_neg (fun h => he h.symm)]; exact H6.out.2.1
        case measure => simp [intOf]; omega
    · obtain rfl : k = st.length := by omega
      have HIu := Lib.hid (infoB (HBu.out st.length))
      have HLu := Lib.hid (len_B (HBu.out st.length) isB_zer)
      have HRu := Lib.hid (rangeW_blk HR.out.1)
      go_wp2_with (first
        | (with_reducible refine wpList_load_any rfl 39 (.tmp 5) rfl w2.heap.size 0 rfl (ofK .u8 (upto st at_ st.length)) _ HRu.out Try.underlying39 rfl HIu.out ?_)
        | ((with_reducible refine wpList_store_blk wr rfl 39 (.tmp 4) (.tmp 22) rfl w1.heap.size 39 (ofK .u8 zer) (ofK .u8 (upto st at_ st.length)) HR.out.2.1 rfl rfl HLu.out HIu.out (one_ofK _ _) ?_); intro w5 hb hc hs; have H5 := Lib.hid (And.intro hb hc); clear hb hc hs))
      have e : st.foldl lay (fun _ => zer) at_ = upto st at_ st.length := by unfold upto; rw [List.take_length]
      rw [e]
      refine bodyPost_ret (results_blk Try.results18 _ _ w1.heap.size _ _ rfl H5.out.1 _ Try.underlying39 rfl HIu.out) rfl ⟨rfl, ?_⟩
      exact below_ch HR.out.2.2 H5.out.2 (Nat.le_refl _) (fun k hk => by have : k = w1.heap.size := hk; omega)

end Go.Proofs.Yticcjaccpcnjhaa
