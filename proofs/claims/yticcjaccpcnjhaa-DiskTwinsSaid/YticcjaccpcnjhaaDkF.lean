/-
  settle, walked. Conditions: at most 2^30 writes.
-/
import Derived.Test.YticcjaccpcnjhaaDkE
import Derived.LoopTactic
import Derived.LoopN
namespace Go.Proofs.Yticcjaccpcnjhaa
open Go Go.RowKit

/-- what is firm when the first k loose writes were settled -/
def sF (keep : Nat → Bool) (f : Int → List Int) (l : List Wr) : Nat → (Int → List Int)
  | 0 => f
  | k + 1 => if keep k = true then lay (sF keep f l k) (l.getD k (0, zer)) else sF keep f l k

theorem sF_B {keep : Nat → Bool} {f : Int → List Int} {l : List Wr} (hf : ∀ i, IsB (f i)) (hl : ∀ e ∈ l, IsB e.2) : ∀ k i, IsB (sF keep f l k i)
  | 0, i => hf i
  | k + 1, i => by
    unfold sF
    split
    · unfold lay
      split
      · rw [List.getD_eq_getElem?_getD]
        cases he : l[k]? with
        | none => exact isB_zer
        | some e => exact hl e (List.mem_of_getElem? he)
      · exact sF_B hf hl k i
    · exact sF_B hf hl k i

theorem setF_lay (f : Int → List Int) (e : Wr) : setF (fun i => vB (f i)) e.1 (.agg (ofK .u8 e.2).toArray) = fun i => vB (lay f e i) := by
  funext j
  unfold setF lay
  split <;> rfl

/-- the k-th write of a row -/
theorem own_wr {w : World} {lv : Value} {l : List Wr} (ho : w.ownsRow 0 84 65 lv l.length (wrsC l)) (hB : ∀ e ∈ l, IsB e.2) : ∃ ao c, lv = .slice ao l.length c ∧ (0 < l.length → ∃ g, ao = some ⟨g, 0, none⟩ ∧ ∀ k (hk : k < l.length), w.rangeAt g (k * 65) (wrC l[k])) := by
  obtain ⟨h1, ⟨rfl, h2⟩ | ⟨g, cap, C, rfl, h4, h5, h6⟩⟩ := ho
  · exact ⟨none, 0, by rw [h2], fun h => by omega⟩
  · refine ⟨_, _, rfl, fun _ => ⟨g, rfl, fun k hk j v hv => ?_⟩⟩
    have hj : j < 65 := by
      have := (List.getElem?_eq_some_iff.1 hv).1
      rwa [wrC_len (hB _ (List.getElem_mem hk))] at this
    have hc := World.ownsRow.cells (w := w) (base := 0) (e := 84) (size := 65) (v := .slice (some ⟨g, 0, none⟩) l.length cap) (n := l.length) (xs := wrsC l) ⟨h1, .inr ⟨g, cap, C, rfl, h4, h5, h6⟩⟩ (g := g) rfl (k * 65 + j) v (by rw [wrsC_at hB k hk j hj]; exact hv)
    have : (Addr.add ⟨g, 0, none⟩ (k * 65 + j)) = ⟨g, k * 65 + j, none⟩ := by unfold Addr.add; split <;> simp_all
    rw [this] at hc; exact hc

theorem DkAt'.firmSet {w w' : World} {p m : Nat} {lv : Value} {al fl : Int} {S : Nat → Prop} {x : Dk} (h : DkAt' w p m lv al fl S x) (e : Wr) (hc : Ch (· = m) w w') (hm : MapF w' m .i64 (vB zer) (setF (fun i => vB (x.firm i)) e.1 (.agg (ofK .u8 e.2).toArray))) :
    DkAt' w' p m lv al fl S { x with firm := lay x.firm e } := by
  rw [setF_lay] at hm
  exact ⟨Blk.keep h.blk hc h.pm, h.alE, h.flE, hm, own_ch h.row hc (fun k hk e => (h.sl k hk).2.2 e), h.sp, h.sm, h.sl, h.pm, fun k hk => Nat.lt_of_lt_of_le (h.bd k hk) hc.size⟩

theorem DkAt'.settled {w : World} {p m : Nat} {lv : Value} {al fl : Int} {S : Nat → Prop} {x : Dk} (h : DkAt' w p m lv al fl S x) :
    DkAt' (w.setCell ⟨p, 0 + 2, none⟩ (.slice none 0 0)) p m (.slice none 0 0) al fl S { x with loose := [] } ∧ Ch (· = p) w (w.setCell ⟨p, 0 + 2, none⟩ (.slice none 0 0)) := by
  have hc : Ch (· = p) w (w.setCell ⟨p, 0 + 2, none⟩ (.slice none 0 0)) := Ch.set w ⟨p, 0 + 2, none⟩ _
  refine ⟨⟨blk_set h.blk 2 _ rfl, h.alE, h.flE, h.firm.keep hc (fun e => h.pm e.symm), World.ownsRow_nil _ _ _ _, h.sp, h.sm, fun k hk => by simp [Value.ownBlock] at hk, h.pm, fun k hk => Nat.lt_of_lt_of_le (h.bd k hk) hc.size⟩, hc⟩

def SettleP (w : World) (p : Nat) (S : Nat → Prop) (x' : Dk) (e : Ending) (w' : World) : Prop := e = .returned (.tuple #[]) ∧ DkAt w' p (Gr S w w') x' ∧ Ch S w w'

def settleD (keep : Nat → Bool) (x : Dk) : Dk := { x with firm := sF keep x.firm x.loose x.loose.length, loose := [] }

def Same (w : World) (v : Value) (e : Ending) (w' : World) : Prop := e = .returned v ∧ w = w'

set_option maxRecDepth 100000 in
set_option maxHeartbeats 2000000 in
theorem settle_go (p : Nat) (S : Nat → Prop) (x : Dk) (keep : Nat → Bool) (gf : Nat) (lb : List Value) (n : Nat) (w : World) (m : Nat) (lv : Value) (al fl : Int) (h : DkAt' w p m lv al fl S x) (hx : x.Ok n) (hn : n ≤ 1073741824)
    (hcf : ∀ args w1, Sem.run Try.prog (callFunc gf args) w1 = .ok (.enter gf args) w1) (hst : ∀ (k : Nat) (w1 : World), k < x.loose.length → Ch S w w1 → Calls Try.prog gf (.int .i64 k :: lb).toArray w1 (Same w1 (.bool (keep k)))) :
    Calls Try.prog 39 #[.pointer (some ⟨p, 0, none⟩), .func (.func gf) #[] lb.toArray] w (SettleP w p S (settleD keep x)) := by
  obtain ⟨ao, cp, rfl, hrow⟩ := own_wr h.row hx.looseB
  have hlen : x.loose.length ≤ 1073741824 := Nat.le_trans hx.len hn
  have d2 := h.blk.cs.c2
  have H := Lib.hid (And.intro h (And.intro hx (And.intro hst (And.intro hcf hrow))))
  have hcf' := hcf
  obtain ⟨L, hL⟩ : ∃ L, L = x.loose.length := ⟨_, rfl⟩
  rw [← hL] at d2 hlen
  have HL := Lib.hid hL
  clear h hx hst hcf hn hrow hL
  go_enter Try.func39, Try.ntmps39
  go_wp2_with fail
  go_loopw [4, 5, 11] (fun u4 u5 i wr => ∃ k : Nat, k ≤ L ∧ i = .int .i64 k ∧ Hid (DkAt' wr p m (.slice ao L cp) al fl S { x with firm := sF keep x.firm x.loose k } ∧ Ch S w wr)) (fun _ _ i _ => L - (intOf i).toNat)
  case atStart => exact ⟨0, Nat.zero_le _, rfl, Lib.hid ⟨by rw [HL.out]; exact H.out.1, Ch.refl _ _⟩⟩
  case round =>
    obtain ⟨k, hk, rfl, HR⟩ := hrel
    by_cases hlt : k < L
    · obtain ⟨ao', c', hE, hrw⟩ := own_wr HR.out.1.row H.out.2.1.looseB
      simp only [Value.slice.injEq] at hE
      obtain ⟨rfl, hE2, rfl⟩ := hE
      obtain ⟨g, rfl, hr⟩ := hrw (by show 0 < x.loose.length; rw [← HL.out]; omega)
      have hkl : k < x.loose.length := by rw [← HL.out]; exact hlt
      obtain ⟨E, hE⟩ : ∃ E, E = x.loose.getD k (0, zer) := ⟨_, rfl⟩
      have hEk : E = x.loose[k] := by rw [hE, List.getD_eq_getElem?_getD, List.getElem?_eq_getElem hkl]; rfl
      have hr1 : wr.rangeAt g (k * 65) (wrC E) := by rw [hEk]; exact hr k hkl
      have hEB : IsB E.2 := by rw [hEk]; exact H.out.2.1.looseB _ (List.getElem_mem hkl)
      have HE := Lib.hid (And.intro hE hEB)
      have HW := Lib.hid (show (Try.prog.info? 84).map (·.size) = some (wrC E).length from by rw [wrC_len hEB]; kernel_rfl)
      have HLn := Lib.hid (show (wrC E).length = ((.int .i64 0 :: ofK .u8 zer) : List Value).length from by rw [wrC_len hEB]; rfl)
      clear hE hEB hEk hkl hr hrw hE2
      have HH := Lib.hid hr1
      clear hr1
      go_wp2_with (first
        | (with_reducible refine wpList_load_any rfl 84 (.tmp 14) rfl g (k * 65) rfl (wrC E) _ HH.out Try.underlying84 rfl HW.out ?_)
        | (with_reducible refine wpList_alloc_blk _ rfl 84 rfl (.int .i64 0 :: ofK .u8 zer) Try.zeroWr ?_; intro w2 hb2 hbel2 hsz2; have HB2 := Lib.hid (And.intro hb2 (And.intro hbel2 hsz2)); clear hb2 hbel2 hsz2)
        | (with_reducible refine wpList_store_blk _ rfl 84 (.tmp 5) (.tmp 15) rfl wr.heap.size 84 (.int .i64 0 :: ofK .u8 zer) (wrC E) HB2.out.1 rfl rfl HLn.out HW.out (one_wrC E) ?_; intro w3 hb3 hch3 hsz3; have HB3 := Lib.hid (And.intro hb3 (And.intro hch3 hsz3)); clear hb3 hch3 hsz3))
      have hbel3 : Below wr.heap.size wr w3 := below_ch HB2.out.2.1 HB3.out.2.1 (Nat.le_refl _) (fun k hk => by have : k = wr.heap.size := hk; omega)
      have hd3 := HR.out.1.keep (Ch.of_below (S := fun _ => False) hbel3 (Nat.le_refl _)) (fun _ _ h => h)
      have hc3 : Ch S w w3 := HR.out.2.trans (Ch.of_below hbel3 (Nat.le_refl _))
      have H3 := Lib.hid (And.intro hd3 (And.intro hc3 (And.intro HB3.out.1 HB3.out.1.lt)))
      have hcall := H.out.2.2.1 k w3 (by rw [← HL.out]; exact hlt) hc3
      obtain ⟨bk, hbk⟩ : ∃ bk, bk = keep k := ⟨_, rfl⟩
      rw [← hbk] at hcall
      have HBK := Lib.hid hbk
      have HCL := Lib.hid hcall
      clear hbel3 hd3 hc3 hcall hbk HB2 HB3 HH
      refine HCL.out.mono ?_
      rintro e w4 ⟨rfl, rfl⟩
      cases bk with
      | true =>
        have c1 := H3.out.1.blk.cs.c1
        have d0 := H3.out.2.2.1.cell 0
        have hr3 : w3.rangeAt wr.heap.size 1 (ofK .u8 E.2) := fun j v hv => by
          rw [H3.out.2.2.1.cell, Nat.add_comm 1 j]; exact hv
        have hiB := Lib.hid (infoB HE.out.2)
        obtain ⟨nb, hnb⟩ : ∃ nb, nb = wr.heap.size := ⟨_, rfl⟩
        have hd0 : w3.cell? ⟨nb, 0, none⟩ = some (.int .i64 E.1) := by rw [hnb]; exact d0
        rw [← hnb] at hr3 H3
        have hnm : nb ≠ m := fun e => by have h1 := HR.out.1.firm.lt; omega
        have hnp : nb ≠ p := fun e => by have h1 := Blk.lt HR.out.1.blk; omega
        have HN := Lib.hid (And.intro hnm hnp)
        rw [← hnb]
        clear d0 hnm hnp hnb
        go_wp2_with fail
        refine wp_region_takes (fun w' => w'.cell? ⟨p, 0 + 1, none⟩ = some (.map (some m)) ∧ w'.cell? ⟨nb, 0, none⟩ = some (.int .i64 E.1) ∧ w'.rangeAt nb 1 (ofK .u8 E.2)) [0, 1, 2, 3, 4, 5, 6, 7] 1 (by kernel_rfl) rfl (by kernel_rfl) (by kernel_rfl) ⟨c1, hd0, hr3⟩ ?_
        iterate 7 (refine' HeldL.run ?_ ?_ ?_ ?_; rotate_left 2; (simp only [List.getElem?_toArray, List.getElem?_cons_zero, List.getElem?_cons_succ]; rfl); rfl; (rintro w' ⟨k0, k1, k2⟩; go_simp; with_reducible rfl); simp only [Act.put, List.setIfInBounds_toArray, List.set_cons_zero, List.set_cons_succ])
        refine' HeldL.run ?_ ?_ ?_ ?_
        rotate_left 2
        (simp only [List.getElem?_toArray, List.getElem?_cons_zero, List.getElem?_cons_succ]; rfl)
        rfl
        · rintro w' ⟨k0, k1, k2⟩
          exact exec_load_mid rfl rfl k2 Try.underlying39 rfl hiB.out
        simp only [Act.put, List.setIfInBounds_toArray, List.set_cons_zero, List.set_cons_succ]
        refine' wpAnyH_one 8 (by kernel_rfl) ?_ ?_; rotate_left; (simp only [List.getElem?_toArray, List.getElem?_cons_zero, List.getElem?_cons_succ]; rfl)
        refine wpList_update_f _ rfl _ _ _ _ rfl Try.underlying68 Try.underlying3 m (vB zer) _ (H3.out.1.firm.keep ((Sm.refl w3).drew.ch (fun _ => False)) (fun h => h)) rfl E.1 rfl (.agg (ofK .u8 E.2).toArray) rfl ?_
        intro w5 hm5 hc5 hs5
        have hc5' : Ch (· = m) w3 w5 := ((Sm.refl w3).drew.ch _).trans hc5
        have hd5 := H3.out.1.firmSet E hc5' hm5
        have H5 := Lib.hid (And.intro hd5 (H3.out.2.1.trans (hc5'.mono (fun k hk => hk ▸ HR.out.1.sm))))
        have hrg5 := rangeW_ch hr3 hc5' HN.out.1
        have hc05 := (hc5'.cell (p := ⟨nb, 0, none⟩) (block_of_cell hd0) HN.out.1).trans hd0
        refine QK.normal ⟨⟨hd5.blk.cs.c1, hc05, hrg5⟩, ?_⟩
        refine wpAnyH_done (by kernel_rfl) ?_ _
        refine NoPanic.normal ?_
        clear hm5 hc5 hs5 hc5' hd5 hrg5 hc05 c1 hd0 hr3
        simp only [Act.put]
        go_wp2_with fail
        go_roundw
        case rel => exact ⟨k + 1, by omega, by go_num, Lib.hid (by rw [show sF keep x.firm x.loose (k + 1) = lay (sF keep x.firm x.loose k) E by rw [sF, if_pos HBK.out.symm, HE.out.1]]; exact H5.out)⟩
        case measure => simp [intOf]; omega
      | false =>
        go_wp2_with fail
        go_roundw
        case rel => exact ⟨k + 1, by omega, by go_num, Lib.hid (by rw [show sF keep x.firm x.loose (k + 1) = sF keep x.firm x.loose k by rw [sF, if_neg (by rw [← HBK.out]; simp)]]; exact ⟨H3.out.1, H3.out.2.1⟩)⟩
        case measure => simp [intOf]; omega
    · obtain rfl : k = L := by omega
      have c2 := HR.out.1.blk.cs.c2
      have f2 := HR.out.1.blk.cs.f2
      have hS := HR.out.1.settled
      have HS := Lib.hid hS
      clear hS
      go_wp2_with fail
      go_end0
      refine ⟨rfl, ?_, HR.out.2.trans (HS.out.2.mono (fun k hk => hk ▸ HR.out.1.sp))⟩
      have hd := HS.out.1
      rw [HL.out] at hd
      exact DkAt.gr ⟨_, _, _, _, hd⟩

end Go.Proofs.Yticcjaccpcnjhaa
