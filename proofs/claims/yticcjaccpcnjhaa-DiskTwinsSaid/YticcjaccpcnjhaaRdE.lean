/-
  The reference's disk: Crash walked. Conditions: at most 2^30 lines.
-/
import Derived.Test.YticcjaccpcnjhaaRdD
namespace Go.Proofs.Yticcjaccpcnjhaa
open Go Go.RowKit

theorem st_flat {w : World} {ao : Option Addr} {st : List Wr} (hcell : 0 < st.length → ∃ g o, ao = some ⟨g, o, none⟩ ∧ ∀ k (hk : k < st.length), w.rangeAt g (o + k * 65) (wrC st[k])) (hB : ∀ e ∈ st, IsB e.2) (n : Nat) (hn : n ≤ st.length) :
    ∀ ad, ao = some ad → ∀ j u, (wrsC (st.take n))[j]? = some u → w.cell? (ad.add j) = some u := by
  intro ad had j u hu
  have hBt : ∀ e ∈ st.take n, IsB e.2 := fun e he => hB e (List.mem_of_mem_take he)
  have hlt : (st.take n).length = n := by rw [List.length_take]; omega
  have hj : j < n * 65 := by
    have := (List.getElem?_eq_some_iff.1 hu).1
    rwa [wrsC_len hBt, hlt] at this
  have hd := Nat.div_add_mod j 65
  have hr : j % 65 < 65 := Nat.mod_lt _ (by omega)
  have hi : j / 65 < n := by omega
  obtain ⟨g, o, rfl, hc⟩ := hcell (by omega)
  cases had
  have h1 := wrsC_at hBt (j / 65) (by rw [hlt]; exact hi) (j % 65) hr
  rw [show j / 65 * 65 + j % 65 = j by omega, hu, List.getElem_take] at h1
  have h2 := hc (j / 65) (by omega) (j % 65) u h1.symm
  rw [add_none]
  rwa [show o + j / 65 * 65 + j % 65 = o + j by omega] at h2

theorem rbuild_crash (x : Dk) (bs : List Bool) (n : Nat) (ao : Option Addr) (c : Nat) (w : World) : (Instr.build 30 #[(0, .int .i64 x.size), (1, .int .i64 n), (2, .slice ao n c), (4, .int .i64 (-1)), (5, .int .i64 (-1)), (6, .int .i64 x.ops)]).run Try.prog w = .ok (.agg (rC (crashD bs x) n (.slice ao n c)).toArray) w := by kernel_rfl

theorem Try.sizeLn : ∀ w, (sizeOf 81).run Try.prog w = .ok 65 w := fun w => by kernel_rfl
theorem Try.sf1 : 0 < 65 := by omega
theorem Try.sf2 : 65 ≤ 16777216 := by omega

theorem own_empty (w : World) (t : TypeId) : (w.alloc (.cells #[] t)).ownsRow w.heap.size t 65 (.slice (some ⟨w.heap.size, 0, none⟩) 0 0) 0 (wrsC []) :=
  ⟨rfl, .inr ⟨w.heap.size, 0, #[], rfl, Nat.le_refl _, Blk.new w [] t, Nat.le_refl _, Nat.zero_le _, rfl, rfl⟩⟩

set_option maxRecDepth 100000 in
set_option maxHeartbeats 4000000 in
theorem rcrash_any (x : Dk) (fm L : Nat) (sv : Value) (st : List Wr) (ko : Option Addr) (kc : Nat) (bs : List Bool) (w : World) (hs : StAt w sv st) (hr : RefOf x st fm) (hl : st.length ≤ 1073741824) (hk : Sl w (.slice ko bs.length kc) (bs.map Value.bool)) (hL : L = st.length - fm) :
    Calls Try.prog 16 #[.agg (rC x fm sv).toArray, .slice ko bs.length kc] w (fun e w' => ∃ sv', e = .returned (.agg (rC (crashD bs x) (crashS bs st fm).length sv').toArray) ∧ StAt w' sv' (crashS bs st fm) ∧ (∀ k, sv'.ownBlock = some k → w.heap.size ≤ k ∧ k < w'.heap.size) ∧ Below w.heap.size w w') := by
  obtain ⟨ao, c, rfl, hlc, hc63, hcell, hnil⟩ := hs
  have hle := hr.le
  have HR := Lib.hid (And.intro hcell (And.intro hr (And.intro hk hnil)))
  have HLL := Lib.hid hL
  have hl2 : L ≤ 1073741824 := by omega
  have hf0 : (0 : Int) ≤ (fm : Int) := by omega
  have hf1 : (fm : Int) ≤ (st.length : Int) := by omega
  have hf2 : (fm : Int) ≤ (c : Int) := by omega
  clear hcell hr hk hnil hL
  go_enter Try.func16, Try.ntmps16
  go_wp2_with (first
    | (with_reducible refine wpList_box_blk w rfl 30 (.tmp 0) rfl (rC x fm (.slice ao st.length c)) rfl ?_; intro w1 hb1 hbel1 hsz1; have HB1 := Lib.hid (And.intro hb1 (And.intro hbel1 hsz1)); clear hb1 hbel1 hsz1)
    | ((with_reducible refine wpList_alloc_blk w1 rfl 30 rfl rZ Try.zeroRd ?_); intro w2 hb hbel hsz; have HB2 := Lib.hid (show Blk w2 w1.heap.size 30 rZ ∧ Blk w2 w.heap.size 30 (rC x fm (.slice ao st.length c)) ∧ Below w.heap.size w w2 ∧ w.heap.size < w1.heap.size ∧ w1.heap.size < w2.heap.size from ⟨hb, HB1.out.1.below hbel HB1.out.1.lt, below_thn HB1.out.2.1 hbel (Nat.le_refl _), by have := HB1.out.2.2; omega, by omega⟩); have c2 : ∀ o, (w2.alloc o).cell? ⟨w.heap.size, 2, none⟩ = some (.slice ao st.length c) := fun o => (((Below.refl w2.heap.size w2).alloc (Nat.le_refl _) o).cell (p := ⟨w.heap.size, 2, none⟩) HB2.out.2.1.lt).trans (by rw [HB2.out.2.1.cell]; rfl); have c1 : ∀ o, (w2.alloc o).cell? ⟨w.heap.size, 1, none⟩ = some (.int .i64 fm) := fun o => (((Below.refl w2.heap.size w2).alloc (Nat.le_refl _) o).cell (p := ⟨w.heap.size, 1, none⟩) HB2.out.2.1.lt).trans (by rw [HB2.out.2.1.cell]; rfl); have HO0 := Lib.hid (own_empty w2 81); clear hb hbel hsz)
    | (at_builtin; refine wpList_append_st _ rfl (.tmp 8) (.tmp 13) rfl w2.heap.size (.slice (some ⟨w2.heap.size, 0, none⟩) 0 0) 0 [] rfl HO0.out ao fm c (st.take fm) rfl ?_ ?_ ?_ ?_ ?_ ?_ fm ?_ ?_))
  · rw [List.length_take]; omega
  · exact fun e he => HR.out.2.1.blk e (List.mem_of_mem_take he)
  · intro h
    have hc0 := HR.out.2.2.2 h
    exact ⟨by omega, hc0⟩
  · intro ad had j u hu
    have h1 := st_flat HR.out.1 HR.out.2.1.blk fm hle ad had j u hu
    have h2 := (HB2.out.2.2.1.cell (block_of_cell h1)).trans h1
    exact (((Below.refl w2.heap.size w2).alloc (Nat.le_refl _) _).cell (block_of_cell h2)).trans h2
  · omega
  · simp
  · omega
  intro ao3 cp3 w3 hown3 hgr3 hat3
  have hb3 : Below w2.heap.size w2 w3 := ((Below.refl w2.heap.size w2).alloc (Nat.le_refl _) _).grown hgr3 (by simp) (fun k hk => by cases hk; exact Nat.le_refl _)
  have H3 := Lib.hid (show w3.ownsRow w2.heap.size 81 65 (.slice ao3 fm cp3) fm (wrsC (st.take fm)) ∧ Below w2.heap.size w2 w3 ∧ w2.heap.size < w3.heap.size from ⟨hown3, hb3, by have := hgr3.size; simp at this; omega⟩)
  have d2 : w3.cell? ⟨w.heap.size, 2, none⟩ = some (.slice ao st.length c) := (hb3.cell (p := ⟨w.heap.size, 2, none⟩) HB2.out.2.1.lt).trans (by rw [HB2.out.2.1.cell]; rfl)
  have d1 : w3.cell? ⟨w.heap.size, 1, none⟩ = some (.int .i64 fm) := (hb3.cell (p := ⟨w.heap.size, 1, none⟩) HB2.out.2.1.lt).trans (by rw [HB2.out.2.1.cell]; rfl)
  clear hown3 hgr3 hat3 hb3 c1 c2 HO0
  by_cases hcf : c = fm
  · have hL0 : L = 0 := by have := HLL.out; omega
    go_wp2_with fail
    rw [← HLL.out]
    have hst : 0 < L → ∃ g o, ao = some ⟨g, o, none⟩ ∧ ∀ k (hk : k < (st.drop fm).length), w.rangeAt g (o + k * 65) (wrC (st.drop fm)[k]) := fun h => by omega
    generalize hls : st.drop fm = ls at *
    have HLS := Lib.hid (show ls.length = L ∧ (∀ e ∈ ls, IsB e.2) ∧ crashS bs st fm = st.take fm ++ keptTo (fun k => bs.getD k false) ls ls.length from ⟨by rw [← hls, List.length_drop]; exact HLL.out.symm, fun e he => HR.out.2.1.blk e (by rw [← hls] at he; exact List.mem_of_mem_drop he), by unfold crashS; rw [hls]⟩)
    have HST := Lib.hid hst
    have h23 : w2.heap.size < w3.heap.size := H3.out.2.2
    clear hst hls hf0 hf1 hf2 hlc hc63 d1 d2
    go_loopw [5, 6, 7, 21] (fun u5 u6 u7 i wr => ∃ k : Nat, k ≤ L ∧ i = .int .i64 k ∧ w2.heap.size < wr.heap.size ∧ ∃ ao5 n5 c5, u5 = .slice ao5 n5 c5 ∧ n5 ≤ fm + k ∧ Hid (n5 = (st.take fm ++ keptTo (fun k => bs.getD k false) ls k).length ∧ wr.ownsRow w2.heap.size 81 65 (.slice ao5 n5 c5) n5 (wrsC (st.take fm ++ keptTo (fun k => bs.getD k false) ls k)) ∧ Below w2.heap.size w2 wr)) (fun _ _ _ i _ => L - (intOf i).toNat)
    case atStart => exact ⟨0, Nat.zero_le _, rfl, h23, _, _, _, rfl, by omega, Lib.hid ⟨by simp [keptTo]; omega, by simpa [keptTo] using H3.out.1, H3.out.2.1⟩⟩
    case round =>
      obtain ⟨k, hk, rfl, h2r, ao5, n5, c5, rfl, hn5, HT⟩ := hrel
      clear h23
      by_cases hlt : k < L
      · omega
      · obtain rfl : k = L := by omega
        have e0 : wr.cell? ⟨w.heap.size, 0, none⟩ = some (.int .i64 x.size) := (HT.out.2.2.cell (p := ⟨w.heap.size, 0, none⟩) HB2.out.2.1.lt).trans (by rw [HB2.out.2.1.cell]; rfl)
        have e6 : wr.cell? ⟨w.heap.size, 6, none⟩ = some (.int .i64 x.ops) := (HT.out.2.2.cell (p := ⟨w.heap.size, 6, none⟩) HB2.out.2.1.lt).trans (by rw [HB2.out.2.1.cell]; rfl)
        have HBL := Lib.hid (rbuild_crash x bs n5 ao5 c5)
        have HIr := Lib.hid (infoR (crashD bs x) n5 (.slice ao5 n5 c5))
        have HLr := Lib.hid (lenR (crashD bs x) n5 (.slice ao5 n5 c5))
        have HOr := Lib.hid (oneR (crashD bs x) n5 ao5 n5 c5)
        have HB4 := Lib.hid (HB2.out.1.below HT.out.2.2 HB2.out.1.lt)
        go_wp2_with (first
          | (with_reducible refine wpList_build_want rfl 30 #[(0, .tmp 42), (1, .tmp 44), (2, .tmp 45), (4, .const (.int .i64 (-1))), (5, .const (.int .i64 (-1))), (6, .tmp 47)] rfl #[(0, .int .i64 x.size), (1, .int .i64 n5), (2, .slice ao5 n5 c5), (4, .int .i64 (-1)), (5, .int .i64 (-1)), (6, .int .i64 x.ops)] rfl (.agg (rC (crashD bs x) n5 (.slice ao5 n5 c5)).toArray) HBL.out ?_)
          | ((with_reducible refine wpList_store_blk wr rfl 30 (.tmp 4) (.tmp 48) rfl w1.heap.size 30 rZ (rC (crashD bs x) n5 (.slice ao5 n5 c5)) HB4.out rfl rfl HLr.out HIr.out HOr.out ?_); intro w9 hb hc hs; have H9 := Lib.hid (And.intro hb hc); clear hb hc hs))
        have hcs : crashS bs st fm = st.take fm ++ keptTo (fun k => bs.getD k false) ls k := by rw [HLS.out.2.2, HLS.out.1]
        refine bodyPost_ret (results_blk Try.results16 _ _ w1.heap.size _ _ rfl H9.out.1 _ Try.underlying30 rfl HIr.out) rfl ⟨.slice ao5 n5 c5, ?_, ?_, ?_, ?_⟩
        · rw [hcs, ← HT.out.1]
        · rw [hcs]
          have hrow := own_ch HT.out.2.1 H9.out.2 (fun k hk e => by have := (HT.out.2.1.lt k hk).1; have : k = w1.heap.size := e; have := HB2.out.2.2.2.2; omega)
          rw [HT.out.1] at hrow
          rw [HT.out.1]
          exact StAt.of_owns hrow (by rw [← hcs]; exact (HR.out.2.1.crash bs).blk)
        · intro k hk
          have := HT.out.2.1.lt k hk
          have := HB2.out.2.2.2
          have := H9.out.2.size
          omega
        · exact below_ch (below_thn HB2.out.2.2.1 HT.out.2.2 (Nat.le_refl _)) H9.out.2 (Nat.le_refl _) (fun k hk => by have : k = w1.heap.size := hk; have := HB2.out.2.2.2.1; omega)
  · go_wp2_with fail
    rw [← HLL.out]
    have hst : 0 < L → ∃ g o, Option.map (fun x => x.add (fm * 65)) ao = some ⟨g, o, none⟩ ∧ ∀ k (hk : k < (st.drop fm).length), w.rangeAt g (o + k * 65) (wrC (st.drop fm)[k]) := fun h => by
      have hL := HLL.out
      obtain ⟨g, o, rfl, hr⟩ := HR.out.1 (by omega)
      refine ⟨g, o + fm * 65, by rw [Option.map_some, add_none], fun k hk => ?_⟩
      have := hr (fm + k) (by rw [List.length_drop] at hk; omega)
      rw [List.getElem_drop, show o + fm * 65 + k * 65 = o + (fm + k) * 65 by omega]; exact this
    generalize Option.map (fun x : Addr => x.add (fm * 65)) ao = ao2 at *
    generalize hls : st.drop fm = ls at *
    have HLS := Lib.hid (show ls.length = L ∧ (∀ e ∈ ls, IsB e.2) ∧ crashS bs st fm = st.take fm ++ keptTo (fun k => bs.getD k false) ls ls.length from ⟨by rw [← hls, List.length_drop]; exact HLL.out.symm, fun e he => HR.out.2.1.blk e (by rw [← hls] at he; exact List.mem_of_mem_drop he), by unfold crashS; rw [hls]⟩)
    have HST := Lib.hid hst
    have h23 : w2.heap.size < w3.heap.size := H3.out.2.2
    clear hst hls hf0 hf1 hf2 hlc hc63 d1 d2
    go_loopw [5, 6, 7, 21] (fun u5 u6 u7 i wr => ∃ k : Nat, k ≤ L ∧ i = .int .i64 k ∧ w2.heap.size < wr.heap.size ∧ ∃ ao5 n5 c5, u5 = .slice ao5 n5 c5 ∧ n5 ≤ fm + k ∧ Hid (n5 = (st.take fm ++ keptTo (fun k => bs.getD k false) ls k).length ∧ wr.ownsRow w2.heap.size 81 65 (.slice ao5 n5 c5) n5 (wrsC (st.take fm ++ keptTo (fun k => bs.getD k false) ls k)) ∧ Below w2.heap.size w2 wr)) (fun _ _ _ i _ => L - (intOf i).toNat)
    case atStart => exact ⟨0, Nat.zero_le _, rfl, h23, _, _, _, rfl, by omega, Lib.hid ⟨by simp [keptTo]; omega, by simpa [keptTo] using H3.out.1, H3.out.2.1⟩⟩
    case round =>
      obtain ⟨k, hk, rfl, h2r, ao5, n5, c5, rfl, hn5, HT⟩ := hrel
      clear h23
      by_cases hlt : k < L
      · have hkl : k < ls.length := by rw [HLS.out.1]; exact hlt
        obtain ⟨g, o, ha, hr⟩ := HST.out (by omega)
        have hcl := hr k hkl
        have hEB := HLS.out.2.1 ls[k] (List.getElem_mem hkl)
        have hgd : ls.getD k (0, zer) = ls[k] := by rw [List.getD_eq_getElem?_getD, List.getElem?_eq_getElem hkl]; rfl
        generalize ls[k] = e at hcl hEB hgd
        have hb1 : Below w.heap.size w wr := below_thn HB2.out.2.2.1 HT.out.2.2 (Nat.le_refl _)
        have HC := Lib.hid (rangeW_below hcl hb1)
        have HI := Lib.hid (infoL hEB)
        have HL := Lib.hid (lenL hEB)
        have HE := Lib.hid hEB
        have HG := Lib.hid hgd
        have HW := Lib.hid (wrC_len hEB)
        clear hr hcl hEB hgd
        subst ha
        have hk0 : (0 : Int) ≤ (k : Int) := by omega
        have hk1 : (k : Int) < (L : Int) := by omega
        by_cases hkj : k < bs.length
        · obtain ⟨kb1, ko1, rfl, hkc⟩ := sl_bools_at HR.out.2.2.1 (by omega)
          have hkc0 := hkc k hkj
          have hkd : bs.getD k false = bs[k] := by rw [List.getD_eq_getElem?_getD, List.getElem?_eq_getElem hkj]; rfl
          have hj2 : (k : Int) < (bs.length : Int) := by omega
          have hkw := fun (w' : World) (h : Below w.heap.size w w') => (h.cell (p := ⟨kb1, ko1 + k, none⟩) (block_of_cell hkc0)).trans hkc0
          have HKW := Lib.hid hkw
          clear hkc hkc0 hkw hb1
          cases hkv : bs[k]
          · rw [hkv] at hkd
            go_wp2_with (first
              | (with_reducible refine wpList_load_any rfl 81 (.tmp 24) rfl g (o + k * 65) rfl (wrC e) _ HC.out Try.underlying81 rfl HI.out ?_)
              | ((with_reducible refine wpList_alloc_blk wr rfl 81 rfl (wrC (0, zer)) Try.zeroLn ?_); intro w5 hb hbel hsz; have H5 := Lib.hid (And.intro hb (And.intro hbel hsz)); clear hb hbel hsz)
              | ((with_reducible refine wpList_store_blk w5 rfl 81 (.tmp 7) (.tmp 25) rfl wr.heap.size 81 (wrC (0, zer)) (wrC e) H5.out.1 rfl rfl HL.out HI.out (one_wrC e) ?_); intro w6 hb hc hs; have hw6 : Below wr.heap.size wr w6 := below_ch H5.out.2.1 hc (Nat.le_refl _) (fun k hk => by have : k = wr.heap.size := hk; omega); have HB6 := Lib.hid hw6; have HR6 := Lib.hid (rangeW_blk hb); have HO6 := Lib.hid (And.intro (own_ch HT.out.2.1 (Ch.of_below (S := fun _ => False) hw6 (Nat.le_refl _)) (fun _ _ h => h)) (below_thn HT.out.2.2 hw6 (Nat.le_refl _))); have hkc := HKW.out w6 (below_thn (below_thn HB2.out.2.2.1 HT.out.2.2 (Nat.le_refl _)) hw6 (Nat.le_refl _)); rw [hkv] at hkc; clear hb hc hs hw6))
            go_roundw
            case rel => exact ⟨k + 1, by omega, by go_num, by have := HB6.out.size; omega, _, _, _, rfl, by omega, Lib.hid ⟨by unfold keptTo; rw [if_neg (by rw [hkd]; simp)]; exact HT.out.1, by unfold keptTo; rw [if_neg (by rw [hkd]; simp)]; exact HO6.out.1, HO6.out.2⟩⟩
            case measure => simp [intOf]; omega
          · rw [hkv] at hkd
            go_wp2_with (first
              | (with_reducible refine wpList_load_any rfl 81 (.tmp 24) rfl g (o + k * 65) rfl (wrC e) _ HC.out Try.underlying81 rfl HI.out ?_)
              | ((with_reducible refine wpList_alloc_blk wr rfl 81 rfl (wrC (0, zer)) Try.zeroLn ?_); intro w5 hb hbel hsz; have H5 := Lib.hid (And.intro hb (And.intro hbel hsz)); clear hb hbel hsz)
              | ((with_reducible refine wpList_store_blk w5 rfl 81 (.tmp 7) (.tmp 25) rfl wr.heap.size 81 (wrC (0, zer)) (wrC e) H5.out.1 rfl rfl HL.out HI.out (one_wrC e) ?_); intro w6 hb hc hs; have hw6 : Below wr.heap.size wr w6 := below_ch H5.out.2.1 hc (Nat.le_refl _) (fun k hk => by have : k = wr.heap.size := hk; omega); have HB6 := Lib.hid hw6; have HR6 := Lib.hid (rangeW_blk hb); have HO6 := Lib.hid (And.intro (own_ch HT.out.2.1 (Ch.of_below (S := fun _ => False) hw6 (Nat.le_refl _)) (fun _ _ h => h)) (below_thn HT.out.2.2 hw6 (Nat.le_refl _))); have hkc := HKW.out w6 (below_thn (below_thn HB2.out.2.2.1 HT.out.2.2 (Nat.le_refl _)) hw6 (Nat.le_refl _)); rw [hkv] at hkc; clear hb hc hs hw6)
              | (with_reducible refine wpList_load_any rfl 81 (.tmp 7) rfl wr.heap.size 0 rfl (wrC e) _ HR6.out Try.underlying81 rfl HI.out ?_)
              | ((with_reducible refine wpList_slice_one w6 rfl 28 (.tmp 37) rfl Try.underlying28 Try.sizeLn Try.zeroLn Try.sf1 Try.sf2 (wrC e) HW.out rfl ?_); intro w7 hb hbel hsz; have H7 := Lib.hid (And.intro hb (And.intro (own_ch HO6.out.1 (Ch.of_below (S := fun _ => False) hbel (Nat.le_refl _)) (fun _ _ h => h)) (And.intro (below_thn HO6.out.2 hbel (Nat.le_refl _)) hbel.size))); clear hb hbel hsz)
              | (at_builtin; refine wpList_append_st w7 rfl (.tmp 36) (.tmp 38) rfl w2.heap.size (.slice ao5 n5 c5) n5 (st.take fm ++ keptTo (fun k => bs.getD k false) ls k) rfl H7.out.2.1 (some ⟨w6.heap.size, 0, none⟩) 1 1 [e] rfl rfl ?_ ?_ ?_ ?_ ?_ (n5 + 1) rfl ?_))
            · intro e' he'; obtain rfl : e' = e := by simpa using he'
              exact HE.out
            · intro h; cases h
            · intro ad had j u hu
              cases had
              have e1 : wrsC [e] = wrC e := by simp [wrsC]
              rw [e1] at hu
              exact World.news_of_block (cs := (wrC e).toArray) (t := 81) (fr := (0, 0)) H7.out.1 j u hu
            · omega
            · exact H7.out.2.2.1.size
            intro ao8 c8 w8 hown8 hgr8 hat8
            have hb8 : Below w2.heap.size w2 w8 := H7.out.2.2.1.grown hgr8 (H7.out.2.2.1.size) (fun k hk => (H7.out.2.1.lt k hk).1)
            have H8 := Lib.hid (And.intro hown8 (And.intro hb8 hgr8.size))
            clear hown8 hb8 hgr8 hat8
            go_wp2_with fail
            go_roundw
            case rel =>
              refine ⟨k + 1, by omega, by go_num, by have := HB6.out.size; have := H7.out.2.2.2; have := H8.out.2.2; omega, ao8, n5 + 1, c8, rfl, by omega, Lib.hid ⟨?_, ?_, H8.out.2.1⟩⟩
              · unfold keptTo; rw [if_pos hkd, ← List.append_assoc, List.length_append, ← HT.out.1]; rfl
              · have := H8.out.1
                unfold keptTo; rw [if_pos hkd, HG.out]; exact this
            case measure => simp [intOf]; omega
        · have hkd : bs.getD k false = false := by rw [List.getD_eq_getElem?_getD, List.getElem?_eq_none (by omega)]; rfl
          have hj2 : ¬ (k : Int) < (bs.length : Int) := by omega
          clear hb1
          go_wp2_with (first
              | (with_reducible refine wpList_load_any rfl 81 (.tmp 24) rfl g (o + k * 65) rfl (wrC e) _ HC.out Try.underlying81 rfl HI.out ?_)
              | ((with_reducible refine wpList_alloc_blk wr rfl 81 rfl (wrC (0, zer)) Try.zeroLn ?_); intro w5 hb hbel hsz; have H5 := Lib.hid (And.intro hb (And.intro hbel hsz)); clear hb hbel hsz)
              | ((with_reducible refine wpList_store_blk w5 rfl 81 (.tmp 7) (.tmp 25) rfl wr.heap.size 81 (wrC (0, zer)) (wrC e) H5.out.1 rfl rfl HL.out HI.out (one_wrC e) ?_); intro w6 hb hc hs; have hw6 : Below wr.heap.size wr w6 := below_ch H5.out.2.1 hc (Nat.le_refl _) (fun k hk => by have : k = wr.heap.size := hk; omega); have HB6 := Lib.hid hw6; have HR6 := Lib.hid (rangeW_blk hb); have HO6 := Lib.hid (And.intro (own_ch HT.out.2.1 (Ch.of_below (S := fun _ => False) hw6 (Nat.le_refl _)) (fun _ _ h => h)) (below_thn HT.out.2.2 hw6 (Nat.le_refl _))); clear hb hc hs hw6))
          go_roundw
          case rel => exact ⟨k + 1, by omega, by go_num, by have := HB6.out.size; omega, _, _, _, rfl, by omega, Lib.hid ⟨by unfold keptTo; rw [if_neg (by rw [hkd]; simp)]; exact HT.out.1, by unfold keptTo; rw [if_neg (by rw [hkd]; simp)]; exact HO6.out.1, HO6.out.2⟩⟩
          case measure => simp [intOf]; omega
      · obtain rfl : k = L := by omega
        have e0 : wr.cell? ⟨w.heap.size, 0, none⟩ = some (.int .i64 x.size) := (HT.out.2.2.cell (p := ⟨w.heap.size, 0, none⟩) HB2.out.2.1.lt).trans (by rw [HB2.out.2.1.cell]; rfl)
        have e6 : wr.cell? ⟨w.heap.size, 6, none⟩ = some (.int .i64 x.ops) := (HT.out.2.2.cell (p := ⟨w.heap.size, 6, none⟩) HB2.out.2.1.lt).trans (by rw [HB2.out.2.1.cell]; rfl)
        have HBL := Lib.hid (rbuild_crash x bs n5 ao5 c5)
        have HIr := Lib.hid (infoR (crashD bs x) n5 (.slice ao5 n5 c5))
        have HLr := Lib.hid (lenR (crashD bs x) n5 (.slice ao5 n5 c5))
        have HOr := Lib.hid (oneR (crashD bs x) n5 ao5 n5 c5)
        have HB4 := Lib.hid (HB2.out.1.below HT.out.2.2 HB2.out.1.lt)
        go_wp2_with (first
          | (with_reducible refine wpList_build_want rfl 30 #[(0, .tmp 42), (1, .tmp 44), (2, .tmp 45), (4, .const (.int .i64 (-1))), (5, .const (.int .i64 (-1))), (6, .tmp 47)] rfl #[(0, .int .i64 x.size), (1, .int .i64 n5), (2, .slice ao5 n5 c5), (4, .int .i64 (-1)), (5, .int .i64 (-1)), (6, .int .i64 x.ops)] rfl (.agg (rC (crashD bs x) n5 (.slice ao5 n5 c5)).toArray) HBL.out ?_)
          | ((with_reducible refine wpList_store_blk wr rfl 30 (.tmp 4) (.tmp 48) rfl w1.heap.size 30 rZ (rC (crashD bs x) n5 (.slice ao5 n5 c5)) HB4.out rfl rfl HLr.out HIr.out HOr.out ?_); intro w9 hb hc hs; have H9 := Lib.hid (And.intro hb hc); clear hb hc hs))
        have hcs : crashS bs st fm = st.take fm ++ keptTo (fun k => bs.getD k false) ls k := by rw [HLS.out.2.2, HLS.out.1]
        refine bodyPost_ret (results_blk Try.results16 _ _ w1.heap.size _ _ rfl H9.out.1 _ Try.underlying30 rfl HIr.out) rfl ⟨.slice ao5 n5 c5, ?_, ?_, ?_, ?_⟩
        · rw [hcs, ← HT.out.1]
        · rw [hcs]
          have hrow := own_ch HT.out.2.1 H9.out.2 (fun k hk e => by have := (HT.out.2.1.lt k hk).1; have : k = w1.heap.size := e; have := HB2.out.2.2.2.2; omega)
          rw [HT.out.1] at hrow
          rw [HT.out.1]
          exact StAt.of_owns hrow (by rw [← hcs]; exact (HR.out.2.1.crash bs).blk)
        · intro k hk
          have := HT.out.2.1.lt k hk
          have := HB2.out.2.2.2
          have := H9.out.2.size
          omega
        · exact below_ch (below_thn HB2.out.2.2.1 HT.out.2.2 (Nat.le_refl _)) H9.out.2 (Nat.le_refl _) (fun k hk => by have : k = w1.heap.size := hk; have := HB2.out.2.2.2.1; omega)

end Go.Proofs.Yticcjaccpcnjhaa
