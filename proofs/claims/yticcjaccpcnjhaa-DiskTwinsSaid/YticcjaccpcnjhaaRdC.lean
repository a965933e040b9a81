/-
  The reference's disk: Loose walked. Conditions: at most 2^30 lines.
-/
import Derived.Test.YticcjaccpcnjhaaRdB
namespace Go.Proofs.Yticcjaccpcnjhaa
open Go Go.RowKit

set_option maxRecDepth 100000 in
set_option maxHeartbeats 4000000 in
theorem rloose_any (x : Dk) (fm L : Nat) (sv : Value) (st : List Wr) (w : World) (hs : StAt w sv st) (hB : ∀ e ∈ st, IsB e.2) (hl : st.length ≤ 1073741824) (hf : fm ≤ st.length) (hL : L = st.length - fm) :
    Calls Try.prog 37 #[.agg (rC x fm sv).toArray] w (RowP w (wrAts (st.drop fm)) L) := by
  obtain ⟨i0, hi, hz0, hz1, hz2⟩ := info_parts Try.infoInt
  obtain ⟨ao, c, rfl, hlc, hc63, hcell, _⟩ := hs
  have HS := Lib.hid (And.intro hcell (And.intro hB hL))
  have hl2 : L ≤ 1073741824 := by omega
  clear hcell hB
  have hf0 : (0 : Int) ≤ (fm : Int) := by omega
  have hf1 : (fm : Int) ≤ (st.length : Int) := by omega
  have hf2 : (fm : Int) ≤ (c : Int) := by omega
  by_cases hcf : c = fm
  · have hL0 : L = 0 := by omega
    go_enter Try.func37, Try.ntmps37
    go_wp2_with (with_reducible refine wpList_box_blk w rfl 30 (.tmp 0) rfl (rC x fm (.slice ao st.length c)) rfl ?_; intro w1 hb1 hbel1 hsz1; have HB1 := Lib.hid (And.intro hb1 hbel1); have HZ1 := Lib.hid hsz1; have c2 := hb1.cell 2; have c1 := hb1.cell 1; simp only [rC, List.getElem?_cons_succ, List.getElem?_cons_zero] at c2 c1; clear hb1 hbel1 hsz1)
    clear c1 c2
    rw [← hL]
    have HLL := Lib.hid hL
    clear hL
    have hst : 0 < L → ∃ g o, ao = some ⟨g, o, none⟩ ∧ ∀ k (hk : k < (st.drop fm).length), w.rangeAt g (o + k * 65) (wrC (st.drop fm)[k]) := fun h => by omega
    generalize hls : st.drop fm = ls at *
    have HLS := Lib.hid (show ls.length = L ∧ ∀ e ∈ ls, IsB e.2 from ⟨by rw [← hls, List.length_drop]; exact HS.out.2.2.symm, fun e he => HS.out.2.1 e (by rw [← hls] at he; exact List.mem_of_mem_drop he)⟩)
    have HST := Lib.hid hst
    have HB1' := Lib.hid HB1.out.2
    clear hst hls hf0 hf1 hf2 hf hlc hc63 HS HB1 hl
    go_loopw [3, 5, 12] (fun out u5 i wr => ∃ k : Nat, k ≤ L ∧ i = .int .i64 k ∧ Hid (wr.ownsRow w.heap.size 3 1 out k (ofK .i64 (wrAts (ls.take k))) ∧ Below w.heap.size w wr ∧ w.heap.size < wr.heap.size)) (fun _ _ i _ => L - (intOf i).toNat)
    case atStart => exact ⟨0, Nat.zero_le _, rfl, Lib.hid ⟨World.ownsRow_nil _ _ _ _, HB1'.out, by have := HZ1.out; omega⟩⟩
    case round =>
      obtain ⟨k, hk, rfl, HR⟩ := hrel
      have hlt : ¬ k < L := by omega
      · obtain rfl : k = L := by omega
        go_wp2_with fail
        go_ret
        refine ⟨_, rfl, ?_, HR.out.2.1⟩
        have := HR.out.1
        rw [List.take_of_length_le (by rw [HLS.out.1]; exact Nat.le_refl _)] at this
        exact this
  · skip
    go_enter Try.func37, Try.ntmps37
    go_wp2_with (with_reducible refine wpList_box_blk w rfl 30 (.tmp 0) rfl (rC x fm (.slice ao st.length c)) rfl ?_; intro w1 hb1 hbel1 hsz1; have HB1 := Lib.hid (And.intro hb1 hbel1); have HZ1 := Lib.hid hsz1; have c2 := hb1.cell 2; have c1 := hb1.cell 1; simp only [rC, List.getElem?_cons_succ, List.getElem?_cons_zero] at c2 c1; clear hb1 hbel1 hsz1)
    clear c1 c2
    rw [← hL]
    have HLL := Lib.hid hL
    clear hL
    have hst : 0 < L → ∃ g o, Option.map (fun x => x.add (fm * 65)) ao = some ⟨g, o, none⟩ ∧ ∀ k (hk : k < (st.drop fm).length), w.rangeAt g (o + k * 65) (wrC (st.drop fm)[k]) := fun h => by
      obtain ⟨g, o, rfl, hr⟩ := HS.out.1 (by have := HLL.out; omega)
      have hL := HLL.out
      refine ⟨g, o + fm * 65, by rw [Option.map_some, add_none], fun k hk => ?_⟩
      have := hr (fm + k) (by rw [List.length_drop] at hk; omega)
      rw [List.getElem_drop, show o + fm * 65 + k * 65 = o + (fm + k) * 65 by omega]; exact this
    generalize Option.map (fun x : Addr => x.add (fm * 65)) ao = ao2 at *
    generalize hls : st.drop fm = ls at *
    have HLS := Lib.hid (show ls.length = L ∧ ∀ e ∈ ls, IsB e.2 from ⟨by rw [← hls, List.length_drop]; exact HS.out.2.2.symm, fun e he => HS.out.2.1 e (by rw [← hls] at he; exact List.mem_of_mem_drop he)⟩)
    have HST := Lib.hid hst
    have HB1' := Lib.hid HB1.out.2
    clear hst hls hf0 hf1 hf2 hf hlc hc63 HS HB1 hl
    go_loopw [3, 5, 12] (fun out u5 i wr => ∃ k : Nat, k ≤ L ∧ i = .int .i64 k ∧ Hid (wr.ownsRow w.heap.size 3 1 out k (ofK .i64 (wrAts (ls.take k))) ∧ Below w.heap.size w wr ∧ w.heap.size < wr.heap.size)) (fun _ _ i _ => L - (intOf i).toNat)
    case atStart => exact ⟨0, Nat.zero_le _, rfl, Lib.hid ⟨World.ownsRow_nil _ _ _ _, HB1'.out, by have := HZ1.out; omega⟩⟩
    case round =>
      obtain ⟨k, hk, rfl, HR⟩ := hrel
      by_cases hlt : k < L
      · have hkl : k < ls.length := by rw [HLS.out.1]; exact hlt
        obtain ⟨g, o, ha, hr⟩ := HST.out (by omega)
        have hcl := hr k hkl
        have hEB := HLS.out.2 ls[k] (List.getElem_mem hkl)
        have hnx : ofK .i64 (wrAts (ls.take (k + 1))) = ofK .i64 (wrAts (ls.take k)) ++ [.int .i64 ls[k].1] := by
          rw [List.take_succ_eq_append_getElem hkl]
          unfold wrAts ofK
          rw [List.map_append, List.map_append]; rfl
        generalize ls[k] = e at hcl hEB hnx
        have HNX := Lib.hid hnx
        have HC := Lib.hid (rangeW_below hcl HR.out.2.1)
        have HI := Lib.hid (infoL hEB)
        have HL := Lib.hid (lenL hEB)
        clear hr hcl hEB hnx
        subst ha
        have hk0 : (0 : Int) ≤ (k : Int) := by omega
        have hk1 : (k : Int) < (L : Int) := by omega
        go_wp2_with (first
          | (with_reducible refine wpList_load_any rfl 81 (.tmp 14) rfl g (o + k * 65) rfl (wrC e) _ HC.out Try.underlying81 rfl HI.out ?_)
          | ((with_reducible refine wpList_alloc_blk wr rfl 81 rfl (wrC (0, zer)) Try.zeroLn ?_); intro w5 hb hbel hsz; have H5 := Lib.hid (And.intro hb (And.intro hbel hsz)); clear hb hbel hsz)
          | ((with_reducible refine wpList_store_blk w5 rfl 81 (.tmp 5) (.tmp 15) rfl wr.heap.size 81 (wrC (0, zer)) (wrC e) H5.out.1 rfl rfl HL.out HI.out (one_wrC e) ?_); intro w6 hb hc hs; have hw6 : Below wr.heap.size wr w6 := below_ch H5.out.2.1 hc (Nat.le_refl _) (fun k hk => by have : k = wr.heap.size := hk; omega); have HO6 := Lib.hid (And.intro (own_ch HR.out.1 (Ch.of_below (S := fun _ => False) hw6 (Nat.le_refl _)) (fun _ _ h => h)) (And.intro (below_thn HR.out.2.1 hw6 (Nat.le_refl _)) (Nat.lt_of_lt_of_le HR.out.2.2 hw6.size))); have d0 := hb.cell 0; simp only [wrC, List.getElem?_cons_zero] at d0; clear hb hc hs hw6)
          | (at_builtin; refine wpList_append_own _ rfl (.tmp 16) (.tmp 19) 56 rfl w.heap.size 3 i0 (.int .i64 0) 1 8 Try.underlying56 hi hz0 hz1 hz2 rfl (by decide) u3 k _ rfl (HO6.out.1.alloc _) ⟨w6.heap.size, 0, none⟩ 1 1 [.int .i64 e.1] rfl rfl ?_ ?_ ?_ ?_ ?_ ?_))
        · exact cell_one_new' _ _ _
        · simp [Value.oneCell']
        · unfold maxLen; omega
        · omega
        · have := HO6.out.2.2; simp; omega
        · intro v4 w7 hown4 hgr4 _
          have hsz6 := HO6.out.2.2
          have hb4 : Below w.heap.size w w7 := (HO6.out.2.1.alloc (by omega) _).grown hgr4 (by simp; omega) (fun k hk => (HO6.out.1.lt k hk).1)
          have H7 := Lib.hid (show w7.ownsRow w.heap.size 3 1 v4 (k + 1) (ofK .i64 (wrAts (ls.take k)) ++ [.int .i64 e.1]) ∧ Below w.heap.size w w7 ∧ w.heap.size < w7.heap.size from ⟨hown4, hb4, by have := hgr4.size; simp at this; omega⟩)
          clear hown4 hgr4 hb4 hsz6
          go_wp2_with fail
          go_roundw
          case rel => exact ⟨k + 1, by omega, by go_num, Lib.hid (by rw [HNX.out]; exact H7.out)⟩
          case measure => simp [intOf]; omega
      · obtain rfl : k = L := by omega
        go_wp2_with fail
        go_ret
        refine ⟨_, rfl, ?_, HR.out.2.1⟩
        have := HR.out.1
        rw [List.take_of_length_le (by rw [HLS.out.1]; exact Nat.le_refl _)] at this
        exact this

end Go.Proofs.Yticcjaccpcnjhaa
