/-
  The law's ought, walked: the disk is written. Conditions: numbers of their kinds; at most 2^30 lines and acts.
-/
import Derived.Test.YticcjaccpcnjhaaRdL
namespace Go.Proofs.Yticcjaccpcnjhaa
open Go Go.RowKit
set_option linter.unusedSimpArgs false

theorem OuI.c13 {w wz : World} {B0 B1 B2 B3 B4 : Nat} {L : List Value} {b : List Int} {a : ActD} {kv : Value} (h : OuI w B0 B1 B2 B3 B4 L b (actC a kv) wz) : wz.cell? ⟨B1, 1, none⟩ = some (.int .i64 a.at_) ∧ wz.cell? ⟨B1, 3, none⟩ = some (.int .u8 a.fill) := ⟨by rw [h.act.cell]; rfl, by rw [h.act.cell]; rfl⟩

set_option maxRecDepth 100000 in
set_option maxHeartbeats 8000000 in
theorem ought_1 (x : Dk) (fm n : Nat) (sv : Value) (st : List Wr) (a : ActD) (ka : Option Addr) (kl kc : Nat) (w : World) (y : Dk) (b : List Int) (m : Int) (hs : StAt w sv st) (hk : ∀ k, sv.ownBlock = some k → k < w.heap.size) (hr : RefOf x st fm) (hx : x.Ok n) (hn : n ≤ 1073741824) (hl : st.length + 1 ≤ 1073741824) (ha : ActOk w a (.slice ka kl kc)) (hq : kindF a.kind = 1) (hy : actF x a = y) (hb : actB x a = b) (hm : actE x a = m) :
    Calls Try.prog 38 #[.agg (rC x fm sv).toArray, .agg (actC a (.slice ka kl kc)).toArray] w (OughtP w sv (st.length + 1) y b m) := by
  obtain ⟨ao, c, rfl, -⟩ := id hs
  have e1 : actF x a = writeD x a.at_ (fil a.fill) := by simp [actF, hq]
  have e2 : actB x a = zer := by simp [actB, hq]
  have e3 : actE x a = askE x a.at_ true := by simp [actE, hq]
  rw [e1] at hy
  rw [e2] at hb
  rw [e3] at hm
  subst hb
  have HY := Lib.hid (And.intro hy hm)
  have HFB := Lib.hid (isB_fil ha.f1 ha.f2)
  clear e1 e2 e3 hy hm
  have HIX := Lib.hid (infoR x fm (.slice ao st.length c))
  have HIZ := Lib.hid (infoB isB_zer)
  have HIA := Lib.hid (infoA a (.slice ka kl kc))
  have HS0 := Lib.hid (And.intro hs hk)
  have HR := Lib.hid (And.intro hr (And.intro hx (And.intro hn (And.intro hl ha))))
  clear hs hr hx hn hl ha hk
  go_enter Try.func38, Try.ntmps38
  go_wp2_with (first
    | (with_reducible refine wpList_box_blk w rfl 30 (.tmp 0) rfl (rC x fm (.slice ao st.length c)) rfl ?_; intro w1 hb1 hbel1 hsz1; have HB1 := Lib.hid (And.intro hb1 (And.intro hbel1 hsz1)); clear hb1 hbel1 hsz1)
    | (with_reducible refine wpList_box_blk w1 rfl 49 (.tmp 1) rfl (actC a (.slice ka kl kc)) rfl ?_; intro w2 hb hbel hsz; have HB2 := Lib.hid (And.intro hb (And.intro (HB1.out.1.below hbel HB1.out.1.lt) (And.intro (below_thn HB1.out.2.1 hbel (Nat.le_refl _)) (show w.heap.size < w1.heap.size ∧ w1.heap.size < w2.heap.size by have := HB1.out.2.2; omega)))); clear hb hbel hsz)
    | ((with_reducible refine wpList_alloc_blk w2 rfl 30 rfl rZ Try.zeroRd ?_); intro w3 hb hbel hsz; have HB3 := Lib.hid (And.intro hb (And.intro (HB2.out.1.below hbel HB2.out.1.lt) (And.intro (HB2.out.2.1.below hbel HB2.out.2.1.lt) (And.intro (below_thn HB2.out.2.2.1 hbel (Nat.le_refl _)) (show w.heap.size < w1.heap.size ∧ w1.heap.size < w2.heap.size ∧ w2.heap.size < w3.heap.size by have := HB2.out.2.2.2; omega))))); clear hb hbel hsz)
    | ((with_reducible refine wpList_alloc_blk w3 rfl 39 rfl (ofK .u8 zer) Try.zeroBl ?_); intro w4 hb hbel hsz; have HB4 := Lib.hid (And.intro hb (And.intro (HB3.out.1.below hbel HB3.out.1.lt) (And.intro (HB3.out.2.1.below hbel HB3.out.2.1.lt) (And.intro (HB3.out.2.2.1.below hbel HB3.out.2.2.1.lt) (And.intro (below_thn HB3.out.2.2.2.1 hbel (Nat.le_refl _)) (show w.heap.size < w1.heap.size ∧ w1.heap.size < w2.heap.size ∧ w2.heap.size < w3.heap.size ∧ w3.heap.size < w4.heap.size by have := HB3.out.2.2.2.2; omega)))))); clear hb hbel hsz)
    | ((with_reducible refine wpList_alloc_blk w4 rfl 39 rfl (ofK .u8 zer) Try.zeroBl ?_); intro w5 hb hbel hsz; have H5 := Lib.hid (show OuI w w.heap.size w1.heap.size w2.heap.size w3.heap.size w4.heap.size (rC x fm (.slice ao st.length c)) zer (actC a (.slice ka kl kc)) w5 from ⟨HB4.out.2.2.2.1.below hbel HB4.out.2.2.2.1.lt, HB4.out.2.2.1.below hbel HB4.out.2.2.1.lt, HB4.out.2.1.below hbel HB4.out.2.1.lt, HB4.out.1.below hbel HB4.out.1.lt, hb, below_thn HB4.out.2.2.2.2.1 hbel (Nat.le_refl _), rfl, HB4.out.2.2.2.2.2⟩); have HRA := Lib.hid (rangeW_blk H5.out.act); clear hb hbel hsz)
    | (with_reducible refine wpList_load_any rfl 49 (.tmp 3) rfl w1.heap.size 0 rfl (actC a (.slice ka kl kc)) _ HRA.out Try.underlying49 rfl HIA.out ?_))
  refine (kind_go a.kind a.at_ a.n a.fill 1 _ _ hq).mono ?_
  rintro e w6 ⟨rfl, hb6⟩
  have H6 := Lib.hid (H5.out.below hb6)
  have HS6 := Lib.hid (StO.start (B4 := w4.heap.size) HS0.out.1 HS0.out.2 H6.out.bel)
  have HRX := Lib.hid H6.out.rngs.1
  have HRB := Lib.hid H6.out.rngs.2
  clear hb6 HB1 HB2 HB3 HB4 H5 HRA
  go_wp2_with fail
  have HW6 := Lib.hid (H6.out.below (Below.refl _ w6).drew)
  have HSW6 := Lib.hid (HS6.out.below (Below.refl _ w6).drew)
  refine wp_region_takes (fun w' => w'.cell? ⟨w1.heap.size, 1, none⟩ = some (.int .i64 a.at_) ∧ w'.cell? ⟨w1.heap.size, 3, none⟩ = some (.int .u8 a.fill)) [1, 2, 3, 4] 8 (by kernel_rfl) rfl (by kernel_rfl) (by kernel_rfl) HW6.out.c13 ?_
  generalize w6.drew = v6 at HW6 HSW6 ⊢
  clear HRX HRB H6 HS6
  iterate 4 (refine' HeldL.run ?_ ?_ ?_ ?_; rotate_left 2; (simp only [List.getElem?_toArray, List.getElem?_cons_zero, List.getElem?_cons_succ]; rfl); rfl; (rintro w' ⟨k0, k1⟩; go_simp; with_reducible rfl); simp only [Act.put, List.setIfInBounds_toArray, List.set_cons_zero, List.set_cons_succ])
  refine' wpAnyH_two 0 5 (by kernel_rfl) ?_ ?_ ?_ ?_; rotate_left 2; (simp only [List.getElem?_toArray, List.getElem?_cons_zero, List.getElem?_cons_succ]; rfl); (simp only [List.getElem?_toArray, List.getElem?_cons_zero, List.getElem?_cons_succ]; rfl)
  · skip
    have HRV := Lib.hid HW6.out.rngs.1
    refine wpList_load_any rfl 30 (.tmp 2) rfl w.heap.size 0 rfl (rC x fm (.slice ao st.length c)) _ HRV.out Try.underlying30 rfl HIX.out ?_
    simp only [Act.put, List.setIfInBounds_toArray, List.set_cons_zero, List.set_cons_succ]
    refine QK.normal ⟨HW6.out.c13, ?_⟩
    refine' wpAnyH_one 5 (by kernel_rfl) ?_ ?_; rotate_left; (simp only [List.getElem?_toArray, List.getElem?_cons_zero, List.getElem?_cons_succ]; rfl)
    go_wp2_with (go_at_call 22; refine (filled_any _ _ HR.out.2.2.2.2.f1 HR.out.2.2.2.2.f2).mono ?_; rintro e v7 ⟨rfl, hb7⟩)
    have HV := Lib.hid (HW6.out.below hb7)
    have HSV := Lib.hid (HSW6.out.below hb7)
    clear hb7
    refine QK.normal ⟨HV.out.c13, ?_⟩
    refine' wpAnyH_one 6 (by kernel_rfl) ?_ ?_; rotate_left; (simp only [List.getElem?_toArray, List.getElem?_cons_zero, List.getElem?_cons_succ]; rfl)
    go_wp2_with (go_at_call 49; refine (rask_wr (n := n) a.at_ (fil a.fill) y m HSV.out.st HR.out.1 HR.out.2.1 HR.out.2.2.1 (by have := HR.out.2.2.2.1; omega) HFB.out HY.out.1 HY.out.2).mono ?_; rintro e w7 ⟨sv7, st7, fm7, rfl, hs7, hr7, hl7, hk7, hb7⟩)
    obtain ⟨ao7, c7, rfl, -⟩ := id hs7
    have H7 := Lib.hid (HV.out.below hb7)
    have HS7 := Lib.hid (StO.next HV.out HS0.out.2 hs7 hk7)
    have HR7 := Lib.hid (And.intro hr7 hl7)
    clear hs7 hk7 hr7 hl7 hb7
    have HLL := Lib.hid (show (rC y fm7 (.slice ao7 st7.length c7)).length = (rC x fm (.slice ao st.length c)).length from rfl)
    have HID := Lib.hid (infoR y fm7 (.slice ao7 st7.length c7))
    have HLD := Lib.hid (lenR y fm7 (.slice ao7 st7.length c7))
    have HOD := Lib.hid (oneR y fm7 ao7 st7.length c7)
    have HIB := Lib.hid (infoB isB_zer)

    refine QK.normal ⟨H7.out.c13, ?_⟩
    refine wpAnyH_takes (fuel := 2) (by kernel_rfl) noPanic_any (H7.out.c13) [7, 8, 9] _ _ (by kernel_rfl) ?_
    try simp only [Act.put]
    iterate 3 (refine' HeldL.run ?_ ?_ ?_ ?_; rotate_left 2; (simp only [List.getElem?_toArray, List.getElem?_cons_zero, List.getElem?_cons_succ]; rfl); rfl; (rintro w' ⟨k0, k1⟩; go_simp; with_reducible rfl); simp only [Act.put, List.setIfInBounds_toArray, List.set_cons_zero, List.set_cons_succ])
    refine' wpAnyH_one 10 (by kernel_rfl) ?_ ?_; rotate_left; (simp only [List.getElem?_toArray, List.getElem?_cons_zero, List.getElem?_cons_succ]; rfl)
    refine wpList_store_blk w7 rfl 30 (.tmp 2) (.tmp 37) rfl w.heap.size 30 (rC x fm (.slice ao st.length c)) (rC y fm7 (.slice ao7 st7.length c7)) H7.out.box rfl rfl HLL.out HID.out HOD.out ?_
    intro w8 hb hc hs
    have H8 := Lib.hid (H7.out.setBox hb hc)
    have HS8 := Lib.hid (HS7.out.set hc (Nat.le_refl _) (by have o := H7.out.ord; omega))
    clear hb hc hs
    simp only [Act.put, List.setIfInBounds_toArray, List.set_cons_zero, List.set_cons_succ]
    refine QK.normal ⟨H8.out.c13, ?_⟩
    refine' wpAnyH_one 11 (by kernel_rfl) ?_ ?_; rotate_left; (simp only [List.getElem?_toArray, List.getElem?_cons_zero, List.getElem?_cons_succ]; rfl)
    go_wp2_with fail
    refine QK.normal ⟨H8.out.c13, ?_⟩
    refine wpAnyH_done (by kernel_rfl) ?_ _
    refine NoPanic.normal ?_
    go_wp2_with fail
    have HW := Lib.hid (H8.out.below (Below.refl _ w8).drew)
    have HSW := Lib.hid (HS8.out.below (Below.refl _ w8).drew)
    refine wp_region_takes (fun w' => w'.rangeAt w.heap.size 0 (rC y fm7 (.slice ao7 st7.length c7)) ∧ w'.rangeAt w4.heap.size 0 (ofK .u8 zer)) [0, 1, 2] 3 (by kernel_rfl) rfl (by kernel_rfl) (by kernel_rfl) HW.out.rngs ?_
    generalize w8.drew = v0 at HW HSW ⊢
    refine' HeldL.run ?_ ?_ ?_ ?_; rotate_left 2; (simp only [List.getElem?_toArray, List.getElem?_cons_zero, List.getElem?_cons_succ]; rfl); rfl; (rintro w' ⟨k0, k1⟩; exact exec_load_mid rfl rfl k0 Try.underlying30 rfl HID.out); simp only [Act.put, List.setIfInBounds_toArray, List.set_cons_zero, List.set_cons_succ]
    refine' HeldL.run ?_ ?_ ?_ ?_; rotate_left 2; (simp only [List.getElem?_toArray, List.getElem?_cons_zero, List.getElem?_cons_succ]; rfl); rfl; (rintro w' ⟨k0, k1⟩; exact exec_load_mid rfl rfl k1 Try.underlying39 rfl HIB.out); simp only [Act.put, List.setIfInBounds_toArray, List.set_cons_zero, List.set_cons_succ]
    refine' HeldL.run ?_ ?_ ?_ ?_; rotate_left 2; (simp only [List.getElem?_toArray, List.getElem?_cons_zero, List.getElem?_cons_succ]; rfl); rfl; (rintro w' ⟨k0, k1⟩; go_simp; with_reducible rfl); simp only [Act.put, List.setIfInBounds_toArray, List.set_cons_zero, List.set_cons_succ]
    refine' wpAnyH_one 3 (by kernel_rfl) ?_ ?_; rotate_left; (simp only [List.getElem?_toArray, List.getElem?_cons_zero, List.getElem?_cons_succ]; rfl)
    refine wpList_store_blk v0 rfl 30 (.tmp 4) (.tmp 71) rfl w2.heap.size 30 rZ (rC y fm7 (.slice ao7 st7.length c7)) HW.out.rd rfl rfl HLD.out HID.out HOD.out ?_
    intro v1 hb1 hc1 hs1
    simp only [Act.put, List.setIfInBounds_toArray, List.set_cons_zero, List.set_cons_succ]
    refine QK.normal ⟨HW.out.rng1 hc1, ?_⟩
    refine' wpAnyH_one 4 (by kernel_rfl) ?_ ?_; rotate_left; (simp only [List.getElem?_toArray, List.getElem?_cons_zero, List.getElem?_cons_succ]; rfl)
    refine wpList_store_blk v1 rfl 39 (.tmp 5) (.tmp 72) rfl w3.heap.size 39 (ofK .u8 zer) (ofK .u8 zer) (HW.out.rb.keep hc1 (fun e => by have o := HW.out.ord; have e : w3.heap.size = w2.heap.size := e; omega)) rfl rfl rfl HIB.out (one_ofK _ _) ?_
    intro v2 hb2 hc2 hs2
    simp only [Act.put, List.setIfInBounds_toArray, List.set_cons_zero, List.set_cons_succ]
    refine QK.normal ⟨HW.out.rng2 hc1 hc2, ?_⟩
    have HOU := Lib.hid (HW.out.outs hb1 hc1 hb2 hc2)
    have HSE := Lib.hid ((HSW.out.set hc1 (by have o := HW.out.ord; omega) (by have o := HW.out.ord; omega)).set hc2 (by have o := HW.out.ord; omega) (by have o := HW.out.ord; omega))
    have HR2 := Lib.hid (HW.out.rng2 hc1 hc2)
    clear hb1 hc1 hs1 hb2 hc2 hs2
    refine' wpAnyH_one 5 (by kernel_rfl) ?_ ?_; rotate_left; (simp only [List.getElem?_toArray, List.getElem?_cons_zero, List.getElem?_cons_succ]; rfl)
    go_wp2_with fail
    refine QK.normal ⟨HR2.out, ?_⟩
    refine wpAnyH_done (by kernel_rfl) ?_ _
    refine NoPanic.normal ?_
    go_wp2_with fail
    refine bodyPost_ret (results_cct Try.results38 _ _ w2.heap.size w3.heap.size _ _ _ _ rfl rfl HOU.out.1 HOU.out.2.1 _ _ Try.underlying30 rfl HID.out Try.underlying39 rfl HIB.out _ rfl) rfl ?_
    exact ⟨_, st7, fm7, rfl, HSE.out.st, HR7.out.1, HR7.out.2, HSE.out.src, HOU.out.2.2⟩
  · skip
    go_wp2_with (go_at_call 22; refine (filled_any _ _ HR.out.2.2.2.2.f1 HR.out.2.2.2.2.f2).mono ?_; rintro e v7 ⟨rfl, hb7⟩)
    have HV := Lib.hid (HW6.out.below hb7)
    have HSV := Lib.hid (HSW6.out.below hb7)
    clear hb7
    refine QK.normal ⟨HV.out.c13, ?_⟩
    refine' wpAnyH_one 0 (by kernel_rfl) ?_ ?_; rotate_left; (simp only [List.getElem?_toArray, List.getElem?_cons_zero, List.getElem?_cons_succ]; rfl)
    try simp only [Act.put]
    have HRV := Lib.hid HV.out.rngs.1
    refine wpList_load_any rfl 30 (.tmp 2) rfl w.heap.size 0 rfl (rC x fm (.slice ao st.length c)) _ HRV.out Try.underlying30 rfl HIX.out ?_
    simp only [Act.put, List.setIfInBounds_toArray, List.set_cons_zero, List.set_cons_succ]
    refine QK.normal ⟨HV.out.c13, ?_⟩
    refine' wpAnyH_one 6 (by kernel_rfl) ?_ ?_; rotate_left; (simp only [List.getElem?_toArray, List.getElem?_cons_zero, List.getElem?_cons_succ]; rfl)
    go_wp2_with (go_at_call 49; refine (rask_wr (n := n) a.at_ (fil a.fill) y m HSV.out.st HR.out.1 HR.out.2.1 HR.out.2.2.1 (by have := HR.out.2.2.2.1; omega) HFB.out HY.out.1 HY.out.2).mono ?_; rintro e w7 ⟨sv7, st7, fm7, rfl, hs7, hr7, hl7, hk7, hb7⟩)
    obtain ⟨ao7, c7, rfl, -⟩ := id hs7
    have H7 := Lib.hid (HV.out.below hb7)
    have HS7 := Lib.hid (StO.next HV.out HS0.out.2 hs7 hk7)
    have HR7 := Lib.hid (And.intro hr7 hl7)
    clear hs7 hk7 hr7 hl7 hb7
    have HLL := Lib.hid (show (rC y fm7 (.slice ao7 st7.length c7)).length = (rC x fm (.slice ao st.length c)).length from rfl)
    have HID := Lib.hid (infoR y fm7 (.slice ao7 st7.length c7))
    have HLD := Lib.hid (lenR y fm7 (.slice ao7 st7.length c7))
    have HOD := Lib.hid (oneR y fm7 ao7 st7.length c7)
    have HIB := Lib.hid (infoB isB_zer)

    refine QK.normal ⟨H7.out.c13, ?_⟩
    refine wpAnyH_takes (fuel := 2) (by kernel_rfl) noPanic_any (H7.out.c13) [7, 8, 9] _ _ (by kernel_rfl) ?_
    try simp only [Act.put]
    iterate 3 (refine' HeldL.run ?_ ?_ ?_ ?_; rotate_left 2; (simp only [List.getElem?_toArray, List.getElem?_cons_zero, List.getElem?_cons_succ]; rfl); rfl; (rintro w' ⟨k0, k1⟩; go_simp; with_reducible rfl); simp only [Act.put, List.setIfInBounds_toArray, List.set_cons_zero, List.set_cons_succ])
    refine' wpAnyH_one 10 (by kernel_rfl) ?_ ?_; rotate_left; (simp only [List.getElem?_toArray, List.getElem?_cons_zero, List.getElem?_cons_succ]; rfl)
    refine wpList_store_blk w7 rfl 30 (.tmp 2) (.tmp 37) rfl w.heap.size 30 (rC x fm (.slice ao st.length c)) (rC y fm7 (.slice ao7 st7.length c7)) H7.out.box rfl rfl HLL.out HID.out HOD.out ?_
    intro w8 hb hc hs
    have H8 := Lib.hid (H7.out.setBox hb hc)
    have HS8 := Lib.hid (HS7.out.set hc (Nat.le_refl _) (by have o := H7.out.ord; omega))
    clear hb hc hs
    simp only [Act.put, List.setIfInBounds_toArray, List.set_cons_zero, List.set_cons_succ]
    refine QK.normal ⟨H8.out.c13, ?_⟩
    refine' wpAnyH_one 11 (by kernel_rfl) ?_ ?_; rotate_left; (simp only [List.getElem?_toArray, List.getElem?_cons_zero, List.getElem?_cons_succ]; rfl)
    go_wp2_with fail
    refine QK.normal ⟨H8.out.c13, ?_⟩
    refine wpAnyH_done (by kernel_rfl) ?_ _
    refine NoPanic.normal ?_
    go_wp2_with fail
    have HW := Lib.hid (H8.out.below (Below.refl _ w8).drew)
    have HSW := Lib.hid (HS8.out.below (Below.refl _ w8).drew)
    refine wp_region_takes (fun w' => w'.rangeAt w.heap.size 0 (rC y fm7 (.slice ao7 st7.length c7)) ∧ w'.rangeAt w4.heap.size 0 (ofK .u8 zer)) [0, 1, 2] 3 (by kernel_rfl) rfl (by kernel_rfl) (by kernel_rfl) HW.out.rngs ?_
    generalize w8.drew = v0 at HW HSW ⊢
    refine' HeldL.run ?_ ?_ ?_ ?_; rotate_left 2; (simp only [List.getElem?_toArray, List.getElem?_cons_zero, List.getElem?_cons_succ]; rfl); rfl; (rintro w' ⟨k0, k1⟩; exact exec_load_mid rfl rfl k0 Try.underlying30 rfl HID.out); simp only [Act.put, List.setIfInBounds_toArray, List.set_cons_zero, List.set_cons_succ]
    refine' HeldL.run ?_ ?_ ?_ ?_; rotate_left 2; (simp only [List.getElem?_toArray, List.getElem?_cons_zero, List.getElem?_cons_succ]; rfl); rfl; (rintro w' ⟨k0, k1⟩; exact exec_load_mid rfl rfl k1 Try.underlying39 rfl HIB.out); simp only [Act.put, List.setIfInBounds_toArray, List.set_cons_zero, List.set_cons_succ]
    refine' HeldL.run ?_ ?_ ?_ ?_; rotate_left 2; (simp only [List.getElem?_toArray, List.getElem?_cons_zero, List.getElem?_cons_succ]; rfl); rfl; (rintro w' ⟨k0, k1⟩; go_simp; with_reducible rfl); simp only [Act.put, List.setIfInBounds_toArray, List.set_cons_zero, List.set_cons_succ]
    refine' wpAnyH_one 3 (by kernel_rfl) ?_ ?_; rotate_left; (simp only [List.getElem?_toArray, List.getElem?_cons_zero, List.getElem?_cons_succ]; rfl)
    refine wpList_store_blk v0 rfl 30 (.tmp 4) (.tmp 71) rfl w2.heap.size 30 rZ (rC y fm7 (.slice ao7 st7.length c7)) HW.out.rd rfl rfl HLD.out HID.out HOD.out ?_
    intro v1 hb1 hc1 hs1
    simp only [Act.put, List.setIfInBounds_toArray, List.set_cons_zero, List.set_cons_succ]
    refine QK.normal ⟨HW.out.rng1 hc1, ?_⟩
    refine' wpAnyH_one 4 (by kernel_rfl) ?_ ?_; rotate_left; (simp only [List.getElem?_toArray, List.getElem?_cons_zero, List.getElem?_cons_succ]; rfl)
    refine wpList_store_blk v1 rfl 39 (.tmp 5) (.tmp 72) rfl w3.heap.size 39 (ofK .u8 zer) (ofK .u8 zer) (HW.out.rb.keep hc1 (fun e => by have o := HW.out.ord; have e : w3.heap.size = w2.heap.size := e; omega)) rfl rfl rfl HIB.out (one_ofK _ _) ?_
    intro v2 hb2 hc2 hs2
    simp only [Act.put, List.setIfInBounds_toArray, List.set_cons_zero, List.set_cons_succ]
    refine QK.normal ⟨HW.out.rng2 hc1 hc2, ?_⟩
    have HOU := Lib.hid (HW.out.outs hb1 hc1 hb2 hc2)
    have HSE := Lib.hid ((HSW.out.set hc1 (by have o := HW.out.ord; omega) (by have o := HW.out.ord; omega)).set hc2 (by have o := HW.out.ord; omega) (by have o := HW.out.ord; omega))
    have HR2 := Lib.hid (HW.out.rng2 hc1 hc2)
    clear hb1 hc1 hs1 hb2 hc2 hs2
    refine' wpAnyH_one 5 (by kernel_rfl) ?_ ?_; rotate_left; (simp only [List.getElem?_toArray, List.getElem?_cons_zero, List.getElem?_cons_succ]; rfl)
    go_wp2_with fail
    refine QK.normal ⟨HR2.out, ?_⟩
    refine wpAnyH_done (by kernel_rfl) ?_ _
    refine NoPanic.normal ?_
    go_wp2_with fail
    refine bodyPost_ret (results_cct Try.results38 _ _ w2.heap.size w3.heap.size _ _ _ _ rfl rfl HOU.out.1 HOU.out.2.1 _ _ Try.underlying30 rfl HID.out Try.underlying39 rfl HIB.out _ rfl) rfl ?_
    exact ⟨_, st7, fm7, rfl, HSE.out.st, HR7.out.1, HR7.out.2, HSE.out.src, HOU.out.2.2⟩

/-- what ought to come, by the reference -/
theorem ought_any (x : Dk) (fm n : Nat) (sv : Value) (st : List Wr) (a : ActD) (ka : Option Addr) (kl kc : Nat) (w : World) (y : Dk) (b : List Int) (m : Int) (hs : StAt w sv st) (hk : ∀ k, sv.ownBlock = some k → k < w.heap.size) (hr : RefOf x st fm) (hx : x.Ok n) (hn : n ≤ 1073741824) (hl : st.length + 1 ≤ 1073741824) (ha : ActOk w a (.slice ka kl kc)) (hy : actF x a = y) (hb : actB x a = b) (hm : actE x a = m) :
    Calls Try.prog 38 #[.agg (rC x fm sv).toArray, .agg (actC a (.slice ka kl kc)).toArray] w (OughtP w sv (st.length + 1) y b m) := by
  have hb7 := kindF_bd a.kind
  rcases (show kindF a.kind = 0 ∨ kindF a.kind = 1 ∨ kindF a.kind = 2 ∨ kindF a.kind = 3 ∨ kindF a.kind = 4 ∨ kindF a.kind = 5 ∨ kindF a.kind = 6 from by omega) with hq | hq | hq | hq | hq | hq | hq
  · exact ought_0 x fm n sv st a ka kl kc w y b m hs hk hr hx hn hl ha hq hy hb hm
  · exact ought_1 x fm n sv st a ka kl kc w y b m hs hk hr hx hn hl ha hq hy hb hm
  · exact ought_2 x fm n sv st a ka kl kc w y b m hs hk hr hx hn hl ha hq hy hb hm
  · exact ought_3 x fm n sv st a ka kl kc w y b m hs hk hr hx hn hl ha hq hy hb hm
  · exact ought_4 x fm n sv st a ka kl kc w y b m hs hk hr hx hn hl ha hq hy hb hm
  · exact ought_5 x fm n sv st a ka kl kc w y b m hs hk hr hx hn hl ha hq hy hb hm
  · exact ought_6 x fm n sv st a ka kl kc w y b m hs hk hr hx hn hl ha hq hy hb hm

end Go.Proofs.Yticcjaccpcnjhaa
