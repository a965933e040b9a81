/-
  Write, walked. Conditions: at most 2^30 writes.
-/
import Derived.Test.YticcjaccpcnjhaaDkC
import Derived.Test.YticcjaccpcnjhaaWide
import Derived.Test.YticcjaccpcnjhaaRg
import Derived.Deep.RegionHeld3
import Derived.Deep.AppendLies
import Derived.StillTailTactics
namespace Go.Proofs.Yticcjaccpcnjhaa
open Go Go.RowKit

theorem Try.infoWr : (Try.prog.info? 84).map (fun i => (i.zero, i.size, i.bytes)) = some (some (.agg (.int .i64 0 :: ofK .u8 zer).toArray), 65, 72) := by kernel_rfl
theorem Try.infoBl : (Try.prog.info? 39).map (·.size) = some 64 := by kernel_rfl

theorem infoB {b : List Int} (h : IsB b) : (Try.prog.info? 39).map (·.size) = some (ofK .u8 b).length := by rw [length_ofK, h.1]; exact Try.infoBl

def buildWr (i : Int) (b : List Int) : Prop := ∀ w, (Instr.build 84 #[(0, .int .i64 i), (1, .agg (ofK .u8 b).toArray)]).run Try.prog w = .ok (.agg (wrC (i, b)).toArray) w

theorem sizeOf_of {P : Program} {t : TypeId} {i : TypeInfo} {n : Nat} (h : P.info? t = some i) (hn : i.size = n) : ∀ w, (sizeOf t).run P w = .ok n w := fun w => by simp [sizeOf, typeInfo, h, hn, Result.andThen]

theorem build_wr (i : Int) (b : List Int) (hb : IsB b) : buildWr i b := fun w =>
  run_build_head (P := Try.prog) (zs := (.int .i64 0 :: ofK .u8 zer).toArray) (n := 64) Try.underlying84 rfl rfl (fun w => by kernel_rfl) (fun w => by kernel_rfl) (fun w => by kernel_rfl) (by kernel_rfl) (.int .i64 i) rfl (ofK .u8 b) (by rw [length_ofK, hb.1]) w

theorem Try.zeroWr : ∀ w, (zeroValue 84).run Try.prog w = .ok (.agg (.int .i64 0 :: ofK .u8 zer).toArray) w := fun w => by kernel_rfl
theorem Try.sizeWr : ∀ w, (sizeOf 84).run Try.prog w = .ok 65 w := fun w => by kernel_rfl

theorem ch_grown {w w' : World} {row : Option Nat} (hg : w.grownBy w' row) : Ch (fun k => row = some k) w w' := ⟨hg.os, hg.tape, hg.output, hg.size, fun k hk hs => hg.block k hk (fun e => hs e.symm)⟩

theorem one_wrC (e : Wr) : ∀ u ∈ wrC e, u.oneCell' = true := by
  intro u hu
  rcases List.mem_cons.1 hu with rfl | hu
  · rfl
  · exact one_ofK _ _ u hu

theorem DkAt'.push {w w2 : World} {p m : Nat} {lv : Value} {al fl : Int} {S : Nat → Prop} {x : Dk} (h : DkAt' w p m lv al fl S x) (e : Wr) (g cap : Nat) (hc : Ch (fun k => lv.ownBlock = some k) w w2)
    (ho : w2.ownsRow 0 84 65 (.slice (some ⟨g, 0, none⟩) (x.loose.length + 1) cap) (x.loose.length + 1) (wrsC x.loose ++ wrC e)) (hg : lv.ownBlock = some g ∨ w.heap.size ≤ g) (hlt : g < w2.heap.size) :
    DkAt (w2.setCell ⟨p, 0 + 2, none⟩ (.slice (some ⟨g, 0, none⟩) (x.loose.length + 1) cap)) p (Gr S w (w2.setCell ⟨p, 0 + 2, none⟩ (.slice (some ⟨g, 0, none⟩) (x.loose.length + 1) cap))) { x with loose := x.loose ++ [e] } ∧
      Ch S w (w2.setCell ⟨p, 0 + 2, none⟩ (.slice (some ⟨g, 0, none⟩) (x.loose.length + 1) cap)) := by
  have hpl : p < w.heap.size := Blk.lt h.blk
  have hml : m < w.heap.size := h.firm.lt
  have hgp : g ≠ p := by rcases hg with hg | hg; exact (h.sl g hg).2.1; omega
  have hgm : g ≠ m := by rcases hg with hg | hg; exact (h.sl g hg).2.2; omega
  have h2 : Ch (· = p) w2 (w2.setCell ⟨p, 0 + 2, none⟩ (.slice (some ⟨g, 0, none⟩) (x.loose.length + 1) cap)) := Ch.set w2 ⟨p, 0 + 2, none⟩ _
  have hS : Ch S w (w2.setCell ⟨p, 0 + 2, none⟩ (.slice (some ⟨g, 0, none⟩) (x.loose.length + 1) cap)) := (hc.mono (fun k hk => (h.sl k hk).1)).trans (h2.mono (fun k hk => hk ▸ h.sp))
  have hz : (w2.setCell ⟨p, 0 + 2, none⟩ (.slice (some ⟨g, 0, none⟩) (x.loose.length + 1) cap)).heap.size = w2.heap.size := by simp
  refine ⟨⟨m, .slice (some ⟨g, 0, none⟩) (x.loose.length + 1) cap, al, fl, ⟨?_, h.alE, h.flE, ?_, ?_, .inl h.sp, .inl h.sm, ?_, h.pm, Gr.lt h.bd hS.size⟩⟩, hS⟩
  · exact blk_set (h.blk.keep hc (fun e => (h.sl p e).2.1 rfl)) 2 _ rfl
  · exact (h.firm.keep hc (fun e => (h.sl m e).2.2 rfl)).keep h2 (fun e => h.pm e.symm)
  · have := own_ch ho h2 (fun k hk => by cases hk; exact hgp)
    rw [wrsC_snoc, List.length_append]
    exact this
  · intro k hk
    cases hk
    refine ⟨?_, hgp, hgm⟩
    rcases hg with hg | hg
    · exact .inl (h.sl g hg).1
    · exact .inr ⟨hg, by rw [hz]; exact hlt⟩


set_option maxRecDepth 100000 in
set_option maxHeartbeats 2000000 in
theorem writeDo_go (p B0 B1 B2 : Nat) (S : Nat → Prop) (x : Dk) (i : Int) (b : List Int) (w : World) (m : Nat) (lv : Value) (al fl : Int) (h : DkAt' w p m lv al fl S x) (hl : x.loose.length ≤ 1073741824) (hb : IsB b)
    (c0 : w.cell? ⟨B0, 0, none⟩ = some (.pointer (some ⟨p, 0, none⟩))) (c1 : w.cell? ⟨B1, 0, none⟩ = some (.int .i64 i)) (c2 : Blk w B2 39 (ofK .u8 b)) (n0 : ¬ S B0) (n1 : ¬ S B1) (n2 : ¬ S B2) :
    Calls Try.prog 44 #[.pointer (some ⟨B0, 0, none⟩), .pointer (some ⟨B1, 0, none⟩), .pointer (some ⟨B2, 0, none⟩)] w (DoP w p S S { x with loose := x.loose ++ [(i, b)] } (fun _ => True)) := by
  obtain ⟨i0, hi0, hz0, hz1, hz2⟩ := info_parts Try.infoWr
  have hbw := build_wr i b hb
  have d2 := h.blk.cs.c2
  have e2 := h.blk.cs.f2
  have hr := rangeW_blk c2
  have H := Lib.hid (And.intro h (And.intro hb (And.intro n0 (And.intro n1 n2))))
  have hi := Lib.hid (infoB hb)
  have HK := Lib.hid (show ∀ w', Ch S w w' → w'.cell? ⟨B0, 0, none⟩ = some (.pointer (some ⟨p, 0, none⟩)) ∧ w'.cell? ⟨B1, 0, none⟩ = some (.int .i64 i) ∧ w'.rangeAt B2 0 (ofK .u8 b) from fun w' hc =>
    ⟨(hc.cell (p := ⟨B0, 0, none⟩) (block_of_cell c0) n0).trans c0, (hc.cell (p := ⟨B1, 0, none⟩) (block_of_cell c1) n1).trans c1, rangeW_ch hr hc n2⟩)
  clear h c2 hb n0 n1 n2
  go_enter Try.func44, Try.ntmps44
  go_wp2_with fail
  refine wp_region_takes (fun w' => w'.cell? ⟨B0, 0, none⟩ = some (.pointer (some ⟨p, 0, none⟩)) ∧ w'.cell? ⟨B1, 0, none⟩ = some (.int .i64 i) ∧ w'.rangeAt B2 0 (ofK .u8 b)) [0, 1, 2, 3, 4, 6, 7, 8] 7 (by kernel_rfl) rfl (by kernel_rfl) (by kernel_rfl) ⟨c0, c1, hr⟩ ?_
  iterate 6 (refine' HeldL.run ?_ ?_ ?_ ?_; rotate_left 2; (simp only [List.getElem?_toArray, List.getElem?_cons_zero, List.getElem?_cons_succ]; rfl); rfl; (rintro w' ⟨k0, k1, k2⟩; go_simp; with_reducible rfl); simp only [Act.put, List.setIfInBounds_toArray, List.set_cons_zero, List.set_cons_succ])
  refine' HeldL.run ?_ ?_ ?_ ?_
  rotate_left 2
  (simp only [List.getElem?_toArray, List.getElem?_cons_zero, List.getElem?_cons_succ]; rfl)
  rfl
  · rintro w' ⟨k0, k1, k2⟩
    exact exec_load_mid rfl rfl k2 Try.underlying39 rfl hi.out
  simp only [Act.put, List.setIfInBounds_toArray, List.set_cons_zero, List.set_cons_succ]
  refine' HeldL.run ?_ ?_ ?_ ?_
  rotate_left 2
  (simp only [List.getElem?_toArray, List.getElem?_cons_zero, List.getElem?_cons_succ]; rfl)
  rfl
  · rintro w' ⟨k0, k1, k2⟩
    exact exec_build rfl (vs := #[(0, .int .i64 i), (1, .agg (ofK .u8 b).toArray)]) (by simp [Act.eval]) (hbw w')
  simp only [Act.put, List.setIfInBounds_toArray, List.set_cons_zero, List.set_cons_succ]
  refine' wpAnyH_two 5 9 (by kernel_rfl) ?_ ?_ ?_ ?_; rotate_left 2; (simp only [List.getElem?_toArray, List.getElem?_cons_zero, List.getElem?_cons_succ]; rfl); (simp only [List.getElem?_toArray, List.getElem?_cons_zero, List.getElem?_cons_succ]; rfl)
  · go_wp2_with fail
    refine QK.normal ⟨⟨c0, c1, hr⟩, ?_⟩
    refine' wpAnyH_one 9 (by kernel_rfl) ?_ ?_; rotate_left; (simp only [List.getElem?_toArray, List.getElem?_cons_zero, List.getElem?_cons_succ]; rfl)
    refine wpList_slice_one _ rfl _ _ rfl Try.underlying69 Try.sizeWr Try.zeroWr (by omega) (by omega) (wrC (i, b)) (wrC_len H.out.2.1) rfl ?_
    intro w1 hb1 hbel1 hsz1
    have HC1 := Lib.hid (show Ch (fun _ => False) w w1 ∧ Blk w1 w.heap.size 84 (wrC (i, b)) from ⟨Ch.of_below (below_thn ((Sm.refl w).drew.below _) hbel1 (Nat.le_refl _)) (Nat.le_refl _), hb1⟩)
    clear hb1 hbel1 hsz1
    simp only [Act.put, List.setIfInBounds_toArray, List.set_cons_zero, List.set_cons_succ]
    refine QK.normal ⟨HK.out w1 (HC1.out.1.mono (fun _ h => h.elim)), ?_⟩
    refine' wpAnyH_one 10 (by kernel_rfl) ?_ ?_; rotate_left; (simp only [List.getElem?_toArray, List.getElem?_cons_zero, List.getElem?_cons_succ]; rfl)
    refine wpList_append_lies _ rfl _ _ _ rfl 0 84 i0 _ 65 72 Try.underlying69 hi0 hz0 hz1 hz2 rfl (by omega) lv x.loose.length (wrsC x.loose) rfl (own_ch H.out.1.row HC1.out.1 (fun _ _ h => h)) ⟨w.heap.size, 0, none⟩ 1 1 (wrC (i, b)) rfl (by rw [wrC_len H.out.2.1]) (World.news_of_block (cs := (wrC (i, b)).toArray) (t := 84) (fr := (0, 0)) HC1.out.2) (one_wrC (i, b)) (by omega) (by unfold maxLen; omega) (by omega) (Nat.zero_le _) w1.heap.size rfl ?_
    intro g cap w2 hown2 hgr2 hat2 hlt2
    have hc2 : Ch (fun k => lv.ownBlock = some k) w w2 := (HC1.out.1.mono (fun _ h => h.elim)).trans (ch_grown hgr2)
    have hS2 : Ch S w w2 := hc2.mono (fun k hk => (H.out.1.sl k hk).1)
    have hat : lv.ownBlock = some g ∨ w.heap.size ≤ g := by
      rcases hat2 with h | h
      · exact .inl h
      · exact .inr (by rw [h]; exact HC1.out.1.size)
    have hP := H.out.1.push (i, b) g cap hc2 hown2 hat hlt2
    have HP := Lib.hid hP
    have hf2 : w2.frozen? ⟨p, 0 + 2, none⟩ = false := (hc2.frozen (p := ⟨p, 0 + 2, none⟩) (Blk.lt H.out.1.blk) (fun e => (H.out.1.sl p e).2.1 rfl)).trans e2
    have hv2 : ∃ v, w2.cell? ⟨p, 0 + 2, none⟩ = some v := ⟨_, (hc2.cell (p := ⟨p, 0 + 2, none⟩) (Blk.lt H.out.1.blk) (fun e => (H.out.1.sl p e).2.1 rfl)).trans d2⟩
    obtain ⟨v2, hv2⟩ := hv2
    have HS2 := Lib.hid (HK.out w2 hS2)
    clear hown2 hgr2 hat2 hat hP hc2 hS2
    refine QK.normal ⟨HS2.out, ?_⟩
    simp only [Act.put, List.setIfInBounds_toArray, List.set_cons_zero, List.set_cons_succ]
    refine' wpAnyH_one 11 (by kernel_rfl) ?_ ?_; rotate_left; (simp only [List.getElem?_toArray, List.getElem?_cons_zero, List.getElem?_cons_succ]; rfl)
    go_wp2_with fail
    refine QK.normal ⟨HS2.out, ?_⟩
    refine' wpAnyH_one 12 (by kernel_rfl) ?_ ?_; rotate_left; (simp only [List.getElem?_toArray, List.getElem?_cons_zero, List.getElem?_cons_succ]; rfl)
    go_wp2_with fail
    refine QK.normal ⟨HS2.out, ?_⟩
    refine' wpAnyH_one 13 (by kernel_rfl) ?_ ?_; rotate_left; (simp only [List.getElem?_toArray, List.getElem?_cons_zero, List.getElem?_cons_succ]; rfl)
    go_wp2_with fail
    refine QK.normal ⟨HS2.out, ?_⟩
    refine' wpAnyH_one 14 (by kernel_rfl) ?_ ?_; rotate_left; (simp only [List.getElem?_toArray, List.getElem?_cons_zero, List.getElem?_cons_succ]; rfl)
    go_wp2_with fail
    refine QK.normal ⟨HK.out _ HP.out.2, ?_⟩
    refine wpAnyH_done (by kernel_rfl) ?_ _
    refine NoPanic.normal ?_
    go_end0
    exact ⟨rfl, HP.out.1, HP.out.2, trivial⟩
  · skip
    refine wpList_slice_one _ rfl _ _ rfl Try.underlying69 Try.sizeWr Try.zeroWr (by omega) (by omega) (wrC (i, b)) (wrC_len H.out.2.1) rfl ?_
    intro w1 hb1 hbel1 hsz1
    have HC1 := Lib.hid (show Ch (fun _ => False) w w1 ∧ Blk w1 w.heap.size 84 (wrC (i, b)) from ⟨Ch.of_below (below_thn ((Sm.refl w).drew.below _) hbel1 (Nat.le_refl _)) (Nat.le_refl _), hb1⟩)
    clear hb1 hbel1 hsz1
    simp only [Act.put, List.setIfInBounds_toArray, List.set_cons_zero, List.set_cons_succ]
    refine QK.normal ⟨HK.out w1 (HC1.out.1.mono (fun _ h => h.elim)), ?_⟩
    have d2' : w1.cell? ⟨p, 0 + 2, none⟩ = some lv := (HC1.out.1.cell (p := ⟨p, 0 + 2, none⟩) (Blk.lt H.out.1.blk) id).trans d2
    refine' wpAnyH_one 5 (by kernel_rfl) ?_ ?_; rotate_left; (simp only [List.getElem?_toArray, List.getElem?_cons_zero, List.getElem?_cons_succ]; rfl)
    go_wp2_with fail
    refine QK.normal ⟨HK.out w1 (HC1.out.1.mono (fun _ h => h.elim)), ?_⟩
    refine' wpAnyH_one 10 (by kernel_rfl) ?_ ?_; rotate_left; (simp only [List.getElem?_toArray, List.getElem?_cons_zero, List.getElem?_cons_succ]; rfl)
    refine wpList_append_lies _ rfl _ _ _ rfl 0 84 i0 _ 65 72 Try.underlying69 hi0 hz0 hz1 hz2 rfl (by omega) lv x.loose.length (wrsC x.loose) rfl (own_ch H.out.1.row HC1.out.1 (fun _ _ h => h)) ⟨w.heap.size, 0, none⟩ 1 1 (wrC (i, b)) rfl (by rw [wrC_len H.out.2.1]) (World.news_of_block (cs := (wrC (i, b)).toArray) (t := 84) (fr := (0, 0)) HC1.out.2) (one_wrC (i, b)) (by omega) (by unfold maxLen; omega) (by omega) (Nat.zero_le _) w1.heap.size rfl ?_
    intro g cap w2 hown2 hgr2 hat2 hlt2
    have hc2 : Ch (fun k => lv.ownBlock = some k) w w2 := (HC1.out.1.mono (fun _ h => h.elim)).trans (ch_grown hgr2)
    have hS2 : Ch S w w2 := hc2.mono (fun k hk => (H.out.1.sl k hk).1)
    have hat : lv.ownBlock = some g ∨ w.heap.size ≤ g := by
      rcases hat2 with h | h
      · exact .inl h
      · exact .inr (by rw [h]; exact HC1.out.1.size)
    have hP := H.out.1.push (i, b) g cap hc2 hown2 hat hlt2
    have HP := Lib.hid hP
    have hf2 : w2.frozen? ⟨p, 0 + 2, none⟩ = false := (hc2.frozen (p := ⟨p, 0 + 2, none⟩) (Blk.lt H.out.1.blk) (fun e => (H.out.1.sl p e).2.1 rfl)).trans e2
    have hv2 : ∃ v, w2.cell? ⟨p, 0 + 2, none⟩ = some v := ⟨_, (hc2.cell (p := ⟨p, 0 + 2, none⟩) (Blk.lt H.out.1.blk) (fun e => (H.out.1.sl p e).2.1 rfl)).trans d2⟩
    obtain ⟨v2, hv2⟩ := hv2
    have HS2 := Lib.hid (HK.out w2 hS2)
    clear hown2 hgr2 hat2 hat hP hc2 hS2
    refine QK.normal ⟨HS2.out, ?_⟩
    simp only [Act.put, List.setIfInBounds_toArray, List.set_cons_zero, List.set_cons_succ]
    refine' wpAnyH_one 11 (by kernel_rfl) ?_ ?_; rotate_left; (simp only [List.getElem?_toArray, List.getElem?_cons_zero, List.getElem?_cons_succ]; rfl)
    go_wp2_with fail
    refine QK.normal ⟨HS2.out, ?_⟩
    refine' wpAnyH_one 12 (by kernel_rfl) ?_ ?_; rotate_left; (simp only [List.getElem?_toArray, List.getElem?_cons_zero, List.getElem?_cons_succ]; rfl)
    go_wp2_with fail
    refine QK.normal ⟨HS2.out, ?_⟩
    refine' wpAnyH_one 13 (by kernel_rfl) ?_ ?_; rotate_left; (simp only [List.getElem?_toArray, List.getElem?_cons_zero, List.getElem?_cons_succ]; rfl)
    go_wp2_with fail
    refine QK.normal ⟨HS2.out, ?_⟩
    refine' wpAnyH_one 14 (by kernel_rfl) ?_ ?_; rotate_left; (simp only [List.getElem?_toArray, List.getElem?_cons_zero, List.getElem?_cons_succ]; rfl)
    go_wp2_with fail
    refine QK.normal ⟨HK.out _ HP.out.2, ?_⟩
    refine wpAnyH_done (by kernel_rfl) ?_ _
    refine NoPanic.normal ?_
    go_end0
    exact ⟨rfl, HP.out.1, HP.out.2, trivial⟩

end Go.Proofs.Yticcjaccpcnjhaa
