/-
  The law's ought, walked: the disk is read, its copy goes on. Conditions: numbers of their kinds; at most 2^30 lines and acts.
-/
import Derived.Test.YticcjaccpcnjhaaRdK
namespace Go.Proofs.Yticcjaccpcnjhaa
open Go Go.RowKit
set_option linter.unusedSimpArgs false

theorem sl_len {w : World} {ao : Option Addr} {n c : Nat} {xs : List Bool} (h : Sl w (.slice ao n c) (xs.map Value.bool)) : n = xs.length := by
  rcases h with ⟨e, h⟩ | ⟨a, cap, e, _⟩
  · have : xs = [] := by simpa using h
    subst this
    simp only [Value.slice.injEq] at e
    exact e.2.1
  · simp only [Value.slice.injEq] at e
    rw [e.2.1, List.length_map]
theorem ha6 {w w6 : World} {a : ActD} {kv : Value} (hb : Below w.heap.size w w6) (ha : ActOk w a kv) : Sl w6 kv (a.keep.map Value.bool) := ha.sl.below hb (Nat.le_refl _)
theorem crashS_len (bs : List Bool) (st : List Wr) (fm : Nat) (h : fm ≤ st.length) : (crashS bs st fm).length ≤ st.length := by
  have := keptTo_le (keep := fun k => bs.getD k false) (l := st.drop fm) (st.drop fm).length
  unfold crashS
  rw [List.length_append, List.length_take]
  rw [List.length_drop] at this ⊢
  omega
theorem upF_same {n : Int} (h : -1 ≤ n) : upF n = n := by unfold upF; split <;> omega
theorem rC_lt {x : Dk} {fm : Nat} {sv : Value} {i : Nat} (h : i < 7) : i < (rC x fm sv).length := h

set_option maxRecDepth 100000 in
set_option maxHeartbeats 8000000 in
theorem ought_6 (x : Dk) (fm n : Nat) (sv : Value) (st : List Wr) (a : ActD) (ka : Option Addr) (kl kc : Nat) (w : World) (y : Dk) (b : List Int) (m : Int) (hs : StAt w sv st) (hk : ∀ k, sv.ownBlock = some k → k < w.heap.size) (hr : RefOf x st fm) (hx : x.Ok n) (hn : n ≤ 1073741824) (hl : st.length + 1 ≤ 1073741824) (ha : ActOk w a (.slice ka kl kc)) (hq : kindF a.kind = 6) (hy : actF x a = y) (hb : actB x a = b) (hm : actE x a = m) :
    Calls Try.prog 38 #[.agg (rC x fm sv).toArray, .agg (actC a (.slice ka kl kc)).toArray] w (OughtP w sv (st.length + 1) y b m) := by
  obtain ⟨ao, c, rfl, -⟩ := id hs
  have e1 : actF x a = x := by simp [actF, hq]
  have e2 : actB x a = zer := by simp [actB, hq]
  have e3 : actE x a = 0 := by simp [actE, hq]
  rw [e1] at hy
  rw [e2] at hb
  rw [e3] at hm
  subst hy hb hm
  clear e1 e2 e3
  have HIX := Lib.hid (infoR x fm (.slice ao st.length c))
  have HIZ := Lib.hid (infoB isB_zer)
  have HIA := Lib.hid (infoA a (.slice ka kl kc))
  have HS0 := Lib.hid (And.intro hs hk)
  have HR := Lib.hid (And.intro hr (And.intro hx (And.intro hn (And.intro hl ha))))
  clear hs hr hx hn hl ha hk
  go_enter Try.func38, Try.ntmps38
  go_wp2_with (first
    | (with_reducible refine wpList_box_blk w rfl 30 (.tmp 0) rfl (rC x fm (.slice ao st.length c)) rfl ?_; intro w1 hb1 hbel1 hsz1; have HB1 := Lib.hid (And.intro hb1 (And.intro hbel1 hsz1)); clear hb1 hbel1 hsz1)
    | (with_reducible refine wpList_box_blk w1 rfl 49 (.tmp 1) rfl (actC a (.slice ka kl kc)) rfl ?_; intro w2 hb hbel hsz; have HB2 := Lib.hid (And.intro hb (And.intro (HB1.out.1.below hbel HB1.out.1.lt) (And.intro (below_thn HB1.out.2.1 hbel (Nat.le_refl _)) (show w.heap.size < w1.heap.size ∧ w1.heap.size < w2.heap.size by have := HB1.out.2.2; omega)))); clear hb hbel hsz)
    | ((with_reducible refine wpList_alloc_blk w2 rfl 30 rfl rZ Try.zeroRd ?_); intro w3 hb hbel hsz; have HB3 := Lib.hid (And.intro hb (And.intro (HB2.out.1.below hbel HB2.out.1.lt) (And.intro (HB2.out.2.1.below hbel HB2.out.2.1.lt) (And.intro (below_thn HB2.out.2.2.1 hbel (Nat.le_refl _)) (show w.heap.size < w1.heap.size ∧ w1.heap.size < w2.heap.size ∧ w2.heap.size < w3.heap.size by have := HB2.out.2.2.2; omega))))); clear hb hbel hsz)
    | ((with_reducible refine wpList_alloc_blk w3 rfl 39 rfl (ofK .u8 zer) Try.zeroBl ?_); intro w4 hb hbel hsz; have HB4 := Lib.hid (And.intro hb (And.intro (HB3.out.1.below hbel HB3.out.1.lt) (And.intro (HB3.out.2.1.below hbel HB3.out.2.1.lt) (And.intro (HB3.out.2.2.1.below hbel HB3.out.2.2.1.lt) (And.intro (below_thn HB3.out.2.2.2.1 hbel (Nat.le_refl _)) (show w.heap.size < w1.heap.size ∧ w1.heap.size < w2.heap.size ∧ w2.heap.size < w3.heap.size ∧ w3.heap.size < w4.heap.size by have := HB3.out.2.2.2.2; omega)))))); clear hb hbel hsz)
    | ((with_reducible refine wpList_alloc_blk w4 rfl 39 rfl (ofK .u8 zer) Try.zeroBl ?_); intro w5 hb hbel hsz; have H5 := Lib.hid (show OuI w w.heap.size w1.heap.size w2.heap.size w3.heap.size w4.heap.size (rC x fm (.slice ao st.length c)) zer (actC a (.slice ka kl kc)) w5 from ⟨HB4.out.2.2.2.1.below hbel HB4.out.2.2.2.1.lt, HB4.out.2.2.1.below hbel HB4.out.2.2.1.lt, HB4.out.2.1.below hbel HB4.out.2.1.lt, HB4.out.1.below hbel HB4.out.1.lt, hb, below_thn HB4.out.2.2.2.2.1 hbel (Nat.le_refl _), rfl, HB4.out.2.2.2.2.2⟩); have HRA := Lib.hid (rangeW_blk H5.out.act); clear hb hbel hsz)
    | (with_reducible refine wpList_load_any rfl 49 (.tmp 3) rfl w1.heap.size 0 rfl (actC a (.slice ka kl kc)) _ HRA.out Try.underlying49 rfl HIA.out ?_))
  refine (kind_go a.kind a.at_ a.n a.fill 6 _ _ hq).mono ?_
  rintro e w6 ⟨rfl, hb6⟩
  have H6 := Lib.hid (H5.out.below hb6)
  have HS6 := Lib.hid (StO.start (B4 := w4.heap.size) HS0.out.1 HS0.out.2 H6.out.bel)
  have HRX := Lib.hid H6.out.rngs.1
  have HRB := Lib.hid H6.out.rngs.2
  clear hb6 HB1 HB2 HB3 HB4 H5 HRA
  have HID := Lib.hid (infoR x fm (.slice ao st.length c))
  have HLD := Lib.hid (lenR x fm (.slice ao st.length c))
  have HOD := Lib.hid (oneR x fm ao st.length c)
  have HIB := Lib.hid (infoB isB_zer)

  go_wp2_with fail
  have HW := Lib.hid (H6.out.below (Below.refl _ w6).drew)
  have HSW := Lib.hid (HS6.out.below (Below.refl _ w6).drew)
  refine wp_region_takes (fun w' => w'.rangeAt w.heap.size 0 (rC x fm (.slice ao st.length c)) ∧ w'.rangeAt w4.heap.size 0 (ofK .u8 zer)) [0, 1, 2] 3 (by kernel_rfl) rfl (by kernel_rfl) (by kernel_rfl) HW.out.rngs ?_
  generalize w6.drew = v0 at HW HSW ⊢
  refine' HeldL.run ?_ ?_ ?_ ?_; rotate_left 2; (simp only [List.getElem?_toArray, List.getElem?_cons_zero, List.getElem?_cons_succ]; rfl); rfl; (rintro w' ⟨k0, k1⟩; exact exec_load_mid rfl rfl k0 Try.underlying30 rfl HID.out); simp only [Act.put, List.setIfInBounds_toArray, List.set_cons_zero, List.set_cons_succ]
  refine' HeldL.run ?_ ?_ ?_ ?_; rotate_left 2; (simp only [List.getElem?_toArray, List.getElem?_cons_zero, List.getElem?_cons_succ]; rfl); rfl; (rintro w' ⟨k0, k1⟩; exact exec_load_mid rfl rfl k1 Try.underlying39 rfl HIB.out); simp only [Act.put, List.setIfInBounds_toArray, List.set_cons_zero, List.set_cons_succ]
  refine' HeldL.run ?_ ?_ ?_ ?_; rotate_left 2; (simp only [List.getElem?_toArray, List.getElem?_cons_zero, List.getElem?_cons_succ]; rfl); rfl; (rintro w' ⟨k0, k1⟩; go_simp; with_reducible rfl); simp only [Act.put, List.setIfInBounds_toArray, List.set_cons_zero, List.set_cons_succ]
  refine' wpAnyH_one 3 (by kernel_rfl) ?_ ?_; rotate_left; (simp only [List.getElem?_toArray, List.getElem?_cons_zero, List.getElem?_cons_succ]; rfl)
  refine wpList_store_blk v0 rfl 30 (.tmp 4) (.tmp 71) rfl w2.heap.size 30 rZ (rC x fm (.slice ao st.length c)) HW.out.rd rfl rfl HLD.out HID.out HOD.out ?_
  intro v1 hb1 hc1 hs1
  simp only [Act.put, List.setIfInBounds_toArray, List.set_cons_zero, List.set_cons_succ]
  refine QK.normal ⟨HW.out.rng1 hc1, ?_⟩
  refine' wpAnyH_one 4 (by kernel_rfl) ?_ ?_; rotate_left; (simp only [List.getElem?_toArray, List.getElem?_cons_zero, List.getElem?_cons_succ]; rfl)
  refine wpList_store_blk v1 rfl 39 (.tmp 5) (.tmp 72) rfl w3.heap.size 39 (ofK .u8 zer) (ofK .u8 zer) (HW.out.rb.keep hc1 (fun e => by have o := HW.out.ord; have e : w3.heap.size = w2.heap.size := e; omega)) rfl rfl rfl HIB.out (one_ofK _ _) ?_
  intro v2 hb2 hc2 hs2
  simp only [Act.put, List.setIfInBounds_toArray, List.set_cons_zero, List.set_cons_succ]
  refine QK.normal ⟨HW.out.rng2 hc1 hc2, ?_⟩
  have HOU := Lib.hid (HW.out.outs hb1 hc1 hb2 hc2)
  have HSE := Lib.hid ((HSW.out.set hc1 (by have o := HW.out.ord; omega) (by have o := HW.out.ord; omega)).set hc2 (by have o := HW.out.ord; omega) (by have o := HW.out.ord; omega))
  have HR2 := Lib.hid (HW.out.rng2 hc1 hc2)
  clear hb1 hc1 hs1 hb2 hc2 hs2
  refine' wpAnyH_one 5 (by kernel_rfl) ?_ ?_; rotate_left; (simp only [List.getElem?_toArray, List.getElem?_cons_zero, List.getElem?_cons_succ]; rfl)
  go_wp2_with fail
  refine QK.normal ⟨HR2.out, ?_⟩
  refine wpAnyH_done (by kernel_rfl) ?_ _
  refine NoPanic.normal ?_
  go_wp2_with fail
  refine bodyPost_ret (results_cct Try.results38 _ _ w2.heap.size w3.heap.size _ _ _ _ rfl rfl HOU.out.1 HOU.out.2.1 _ _ Try.underlying30 rfl HID.out Try.underlying39 rfl HIB.out _ rfl) rfl ?_
  exact ⟨_, st, fm, rfl, HSE.out.st, HR.out.1, by omega, HSE.out.src, HOU.out.2.2⟩

set_option maxRecDepth 100000 in
set_option maxHeartbeats 8000000 in
theorem ought_0 (x : Dk) (fm n : Nat) (sv : Value) (st : List Wr) (a : ActD) (ka : Option Addr) (kl kc : Nat) (w : World) (y : Dk) (b : List Int) (m : Int) (hs : StAt w sv st) (hk : ∀ k, sv.ownBlock = some k → k < w.heap.size) (hr : RefOf x st fm) (hx : x.Ok n) (hn : n ≤ 1073741824) (hl : st.length + 1 ≤ 1073741824) (ha : ActOk w a (.slice ka kl kc)) (hq : kindF a.kind = 0) (hy : actF x a = y) (hb : actB x a = b) (hm : actE x a = m) :
    Calls Try.prog 38 #[.agg (rC x fm sv).toArray, .agg (actC a (.slice ka kl kc)).toArray] w (OughtP w sv (st.length + 1) y b m) := by
  obtain ⟨ao, c, rfl, -⟩ := id hs
  have e1 : actF x a = readD x a.at_ := by simp [actF, hq]
  have e2 : actB x a = readB x a.at_ := by simp [actB, hq]
  have e3 : actE x a = askE x a.at_ false := by simp [actE, hq]
  rw [e1] at hy
  rw [e2] at hb
  rw [e3] at hm
  have HY := Lib.hid (And.intro hy (And.intro hb hm))
  have HHB := Lib.hid (isB_read hx a.at_)
  have HHO := Lib.hid (show y.holds a.at_ = x.holds a.at_ from by rw [← hy]; unfold readD Dk.holds; rw [fin_loose, fin_firm, askD_loose, askD_firm]; simp only [ite_self])
  clear e1 e2 e3 hy hb hm
  have HIX := Lib.hid (infoR x fm (.slice ao st.length c))
  have HIZ := Lib.hid (infoB isB_zer)
  have HIA := Lib.hid (infoA a (.slice ka kl kc))
  have HS0 := Lib.hid (And.intro hs hk)
  have HR := Lib.hid (And.intro hr (And.intro hx (And.intro hn (And.intro hl ha))))
  clear hs hr hx hn hl ha hk
  go_enter Try.func38, Try.ntmps38
  go_wp2_with (first
    | (with_reducible refine wpList_box_blk w rfl 30 (.tmp 0) rfl (rC x fm (.slice ao st.length c)) rfl ?_; intro w1 hb1 hbel1 hsz1; have HB1 := Lib.hid (And.intro hb1 (And.intro hbel1 hsz1)); clear hb1 hbel1 hsz1)
    | (with_reducible refine wpList_box_blk w1 rfl 49 (.tmp 1) rfl (actC a (.slice ka kl kc)) rfl ?_; intro w2 hb hbel hsz; have HB2 := Lib.hid (And.intro hb (And.intro (HB1.out.1.below hbel HB1.out.1.lt) (And.intro (below_thn HB1.out.2.1 hbel (Nat.le_refl _)) (show w.heap.size < w1.heap.size ∧ w1.heap.size < w2.heap.size by have := HB1.out.2.2; omega)))); clear hb hbel hsz)
    | ((with_reducible refine wpList_alloc_blk w2 rfl 30 rfl rZ Try.zeroRd ?_); intro w3 hb hbel hsz; have HB3 := Lib.hid (And.intro hb (And.intro (HB2.out.1.below hbel HB2.out.1.lt) (And.intro (HB2.out.2.1.below hbel HB2.out.2.1.lt) (And.intro (below_thn HB2.out.2.2.1 hbel (Nat.le_refl _)) (show w.heap.size < w1.heap.size ∧ w1.heap.size < w2.heap.size ∧ w2.heap.size < w3.heap.size by have := HB2.out.2.2.2; omega))))); clear hb hbel hsz)
    | ((with_reducible refine wpList_alloc_blk w3 rfl 39 rfl (ofK .u8 zer) Try.zeroBl ?_); intro w4 hb hbel hsz; have HB4 := Lib.hid (And.intro hb (And.intro (HB3.out.1.below hbel HB3.out.1.lt) (And.intro (HB3.out.2.1.below hbel HB3.out.2.1.lt) (And.intro (HB3.out.2.2.1.below hbel HB3.out.2.2.1.lt) (And.intro (below_thn HB3.out.2.2.2.1 hbel (Nat.le_refl _)) (show w.heap.size < w1.heap.size ∧ w1.heap.size < w2.heap.size ∧ w2.heap.size < w3.heap.size ∧ w3.heap.size < w4.heap.size by have := HB3.out.2.2.2.2; omega)))))); clear hb hbel hsz)
    | ((with_reducible refine wpList_alloc_blk w4 rfl 39 rfl (ofK .u8 zer) Try.zeroBl ?_); intro w5 hb hbel hsz; have H5 := Lib.hid (show OuI w w.heap.size w1.heap.size w2.heap.size w3.heap.size w4.heap.size (rC x fm (.slice ao st.length c)) zer (actC a (.slice ka kl kc)) w5 from ⟨HB4.out.2.2.2.1.below hbel HB4.out.2.2.2.1.lt, HB4.out.2.2.1.below hbel HB4.out.2.2.1.lt, HB4.out.2.1.below hbel HB4.out.2.1.lt, HB4.out.1.below hbel HB4.out.1.lt, hb, below_thn HB4.out.2.2.2.2.1 hbel (Nat.le_refl _), rfl, HB4.out.2.2.2.2.2⟩); have HRA := Lib.hid (rangeW_blk H5.out.act); clear hb hbel hsz)
    | (with_reducible refine wpList_load_any rfl 49 (.tmp 3) rfl w1.heap.size 0 rfl (actC a (.slice ka kl kc)) _ HRA.out Try.underlying49 rfl HIA.out ?_))
  refine (kind_go a.kind a.at_ a.n a.fill 0 _ _ hq).mono ?_
  rintro e w6 ⟨rfl, hb6⟩
  have H6 := Lib.hid (H5.out.below hb6)
  have HS6 := Lib.hid (StO.start (B4 := w4.heap.size) HS0.out.1 HS0.out.2 H6.out.bel)
  have HRX := Lib.hid H6.out.rngs.1
  have HRB := Lib.hid H6.out.rngs.2
  clear hb6 HB1 HB2 HB3 HB4 H5 HRA
  have a1 := H6.out.act.cell 1
  simp only [actC, List.getElem?_cons_succ, List.getElem?_cons_zero] at a1
  go_wp2_with (first
    | (with_reducible refine wpList_load_any rfl 30 (.tmp 2) rfl w.heap.size 0 rfl (rC x fm (.slice ao st.length c)) _ HRX.out Try.underlying30 rfl HIX.out ?_)
    | (with_reducible refine wpList_load_any rfl 39 (.tmp 7) rfl w4.heap.size 0 rfl (ofK .u8 zer) _ HRB.out Try.underlying39 rfl HIZ.out ?_))
  refine (rask_rd (n := n) a.at_ zer y m HS6.out.st HR.out.1 HR.out.2.1 HR.out.2.2.1 HY.out.1 HY.out.2.2).mono ?_
  rintro e w7 ⟨sv7, st7, fm7, rfl, hs7, hr7, hl7, hk7, hb7⟩
  obtain ⟨ao7, c7, rfl, -⟩ := id hs7
  have H7 := Lib.hid (H6.out.below hb7)
  have HS7 := Lib.hid (StO.next H6.out HS0.out.2 hs7 hk7)
  have HR7 := Lib.hid (And.intro hr7 hl7)
  clear hs7 hk7 hr7 hl7 hb7
  have HLL := Lib.hid (show (rC y fm7 (.slice ao7 st7.length c7)).length = (rC x fm (.slice ao st.length c)).length from rfl)
  clear a1
  by_cases hm0 : m = 0
  · subst hm0
    have eb := Lib.hid (show b = x.holds a.at_ from by rw [← HY.out.2.1]; exact if_pos HY.out.2.2)
    have hbB : IsB b := by rw [← HY.out.2.1]; exact HHB.out
    have HID := Lib.hid (infoR y fm7 (.slice ao7 st7.length c7))
    have HLD := Lib.hid (lenR y fm7 (.slice ao7 st7.length c7))
    have HOD := Lib.hid (oneR y fm7 ao7 st7.length c7)
    have HIB := Lib.hid (infoB hbB)
    have HLB := Lib.hid (lenB' hbB)
    clear hbB
    go_wp2_with (first
      | ((with_reducible refine wpList_store_blk w7 rfl 30 (.tmp 2) (.tmp 19) rfl w.heap.size 30 (rC x fm (.slice ao st.length c)) (rC y fm7 (.slice ao7 st7.length c7)) H7.out.box rfl rfl HLL.out HID.out HOD.out ?_); intro w8 hb hc hs; have H8 := Lib.hid (H7.out.setBox hb hc); have HS8 := Lib.hid (HS7.out.set hc (Nat.le_refl _) (by have o := H7.out.ord; omega)); have HRD := Lib.hid H8.out.rngs.1; have a1 := H8.out.act.cell 1; simp only [actC, List.getElem?_cons_succ, List.getElem?_cons_zero] at a1; clear hb hc hs)
      | (with_reducible refine wpList_load_any rfl 30 (.tmp 2) rfl w.heap.size 0 rfl (rC y fm7 (.slice ao7 st7.length c7)) _ HRD.out Try.underlying30 rfl HID.out ?_))
    have hch := rholds_any y fm7 _ st7 a.at_ w8 HS8.out.st HR7.out.1.blk (by have := HR7.out.2; have := HR.out.2.2.2.1; omega)
    rw [← HR7.out.1.holds, HHO.out, ← eb.out] at hch
    refine hch.mono ?_
    rintro e w9 ⟨rfl, hb9⟩
    have H9 := Lib.hid (H8.out.below hb9)
    have HS9 := Lib.hid (HS8.out.below hb9)
    clear hb9 hch a1
    go_wp2_with ((with_reducible refine wpList_store_blk w9 rfl 39 (.tmp 7) (.tmp 26) rfl w4.heap.size 39 (ofK .u8 zer) (ofK .u8 b) H9.out.blk rfl rfl HLB.out HIB.out (one_ofK _ _) ?_); intro w10 hb hc hs; have H10 := Lib.hid (H9.out.setBlk hb hc); have HS10 := Lib.hid (HS9.out.set hc (by have o := H9.out.ord; omega) (Nat.le_refl _)); clear hb hc hs)
    have HW := Lib.hid (H10.out.below (Below.refl _ w10).drew)
    have HSW := Lib.hid (HS10.out.below (Below.refl _ w10).drew)
    refine wp_region_takes (fun w' => w'.rangeAt w.heap.size 0 (rC y fm7 (.slice ao7 st7.length c7)) ∧ w'.rangeAt w4.heap.size 0 (ofK .u8 b)) [0, 1, 2] 3 (by kernel_rfl) rfl (by kernel_rfl) (by kernel_rfl) HW.out.rngs ?_
    generalize w10.drew = v0 at HW HSW ⊢
    refine' HeldL.run ?_ ?_ ?_ ?_; rotate_left 2; (simp only [List.getElem?_toArray, List.getElem?_cons_zero, List.getElem?_cons_succ]; rfl); rfl; (rintro w' ⟨k0, k1⟩; exact exec_load_mid rfl rfl k0 Try.underlying30 rfl HID.out); simp only [Act.put, List.setIfInBounds_toArray, List.set_cons_zero, List.set_cons_succ]
    refine' HeldL.run ?_ ?_ ?_ ?_; rotate_left 2; (simp only [List.getElem?_toArray, List.getElem?_cons_zero, List.getElem?_cons_succ]; rfl); rfl; (rintro w' ⟨k0, k1⟩; exact exec_load_mid rfl rfl k1 Try.underlying39 rfl HIB.out); simp only [Act.put, List.setIfInBounds_toArray, List.set_cons_zero, List.set_cons_succ]
    refine' HeldL.run ?_ ?_ ?_ ?_; rotate_left 2; (simp only [List.getElem?_toArray, List.getElem?_cons_zero, List.getElem?_cons_succ]; rfl); rfl; (rintro w' ⟨k0, k1⟩; go_simp; with_reducible rfl); simp only [Act.put, List.setIfInBounds_toArray, List.set_cons_zero, List.set_cons_succ]
    refine' wpAnyH_one 3 (by kernel_rfl) ?_ ?_; rotate_left; (simp only [List.getElem?_toArray, List.getElem?_cons_zero, List.getElem?_cons_succ]; rfl)
    refine wpList_store_blk v0 rfl 30 (.tmp 4) (.tmp 71) rfl w2.heap.size 30 rZ (rC y fm7 (.slice ao7 st7.length c7)) HW.out.rd rfl rfl HLD.out HID.out HOD.out ?_
    intro v1 hb1 hc1 hs1
    simp only [Act.put, List.setIfInBounds_toArray, List.set_cons_zero, List.set_cons_succ]
    refine QK.normal ⟨HW.out.rng1 hc1, ?_⟩
    refine' wpAnyH_one 4 (by kernel_rfl) ?_ ?_; rotate_left; (simp only [List.getElem?_toArray, List.getElem?_cons_zero, List.getElem?_cons_succ]; rfl)
    refine wpList_store_blk v1 rfl 39 (.tmp 5) (.tmp 72) rfl w3.heap.size 39 (ofK .u8 zer) (ofK .u8 b) (HW.out.rb.keep hc1 (fun e => by have o := HW.out.ord; have e : w3.heap.size = w2.heap.size := e; omega)) rfl rfl HLB.out HIB.out (one_ofK _ _) ?_
    intro v2 hb2 hc2 hs2
    simp only [Act.put, List.setIfInBounds_toArray, List.set_cons_zero, List.set_cons_succ]
    refine QK.normal ⟨HW.out.rng2 hc1 hc2, ?_⟩
    have HOU := Lib.hid (HW.out.outs hb1 hc1 hb2 hc2)
    have HSE := Lib.hid ((HSW.out.set hc1 (by have o := HW.out.ord; omega) (by have o := HW.out.ord; omega)).set hc2 (by have o := HW.out.ord; omega) (by have o := HW.out.ord; omega))
    have HR2 := Lib.hid (HW.out.rng2 hc1 hc2)
    clear hb1 hc1 hs1 hb2 hc2 hs2
    refine' wpAnyH_one 5 (by kernel_rfl) ?_ ?_; rotate_left; (simp only [List.getElem?_toArray, List.getElem?_cons_zero, List.getElem?_cons_succ]; rfl)
    go_wp2_with fail
    refine QK.normal ⟨HR2.out, ?_⟩
    refine wpAnyH_done (by kernel_rfl) ?_ _
    refine NoPanic.normal ?_
    go_wp2_with fail
    refine bodyPost_ret (results_cct Try.results38 _ _ w2.heap.size w3.heap.size _ _ _ _ rfl rfl HOU.out.1 HOU.out.2.1 _ _ Try.underlying30 rfl HID.out Try.underlying39 rfl HIB.out _ rfl) rfl ?_
    exact ⟨_, st7, fm7, rfl, HSE.out.st, HR7.out.1, HR7.out.2, HSE.out.src, HOU.out.2.2⟩
  · have eb : b = zer := by rw [← HY.out.2.1]; exact if_neg (by rw [HY.out.2.2]; exact hm0)
    subst eb
    have hm1 : (m == 0) = false := by simpa using hm0
    have HID := Lib.hid (infoR y fm7 (.slice ao7 st7.length c7))
    have HLD := Lib.hid (lenR y fm7 (.slice ao7 st7.length c7))
    have HOD := Lib.hid (oneR y fm7 ao7 st7.length c7)
    have HIB := Lib.hid (infoB isB_zer)

    go_wp2_with (first
      | ((with_reducible refine wpList_store_blk w7 rfl 30 (.tmp 2) (.tmp 19) rfl w.heap.size 30 (rC x fm (.slice ao st.length c)) (rC y fm7 (.slice ao7 st7.length c7)) H7.out.box rfl rfl HLL.out HID.out HOD.out ?_); intro w8 hb hc hs; have H8 := Lib.hid (H7.out.setBox hb hc); have HS8 := Lib.hid (HS7.out.set hc (Nat.le_refl _) (by have o := H7.out.ord; omega)); clear hb hc hs))
    have HW := Lib.hid (H8.out.below (Below.refl _ w8).drew)
    have HSW := Lib.hid (HS8.out.below (Below.refl _ w8).drew)
    refine wp_region_takes (fun w' => w'.rangeAt w.heap.size 0 (rC y fm7 (.slice ao7 st7.length c7)) ∧ w'.rangeAt w4.heap.size 0 (ofK .u8 zer)) [0, 1, 2] 3 (by kernel_rfl) rfl (by kernel_rfl) (by kernel_rfl) HW.out.rngs ?_
    generalize w8.drew = v0 at HW HSW ⊢
    refine' HeldL.run ?_ ?_ ?_ ?_; rotate_left 2; (simp only [List.getElem?_toArray, List.getElem?_cons_zero, List.getElem?_cons_succ]; rfl); rfl; (rintro w' ⟨k0, k1⟩; exact exec_load_mid rfl rfl k0 Try.underlying30 rfl HID.out); simp only [Act.put, List.setIfInBounds_toArray, List.set_cons_zero, List.set_cons_succ]
    refine' HeldL.run ?_ ?_ ?_ ?_; rotate_left 2; (simp only [List.getElem?_toArray, List.getElem?_cons_zero, List.getElem?_cons_succ]; rfl); rfl; (rintro w' ⟨k0, k1⟩; exact exec_load_mid rfl rfl k1 Try.underlying39 rfl HIB.out); simp only [Act.put, List.setIfInBounds_toArray, List.set_cons_zero, List.set_cons_succ]
    refine' HeldL.run ?_ ?_ ?_ ?_; rotate_left 2; (simp only [List.getElem?_toArray, List.getElem?_cons_zero, List.getElem?_cons_succ]; rfl); rfl; (rintro w' ⟨k0, k1⟩; go_simp; with_reducible rfl); simp only [Act.put, List.setIfInBounds_toArray, List.set_cons_zero, List.set_cons_succ]
    refine' wpAnyH_one 3 (by kernel_rfl) ?_ ?_; rotate_left; (simp only [List.getElem?_toArray, List.getElem?_cons_zero, List.getElem?_cons_succ]; rfl)
    refine wpList_store_blk v0 rfl 30 (.tmp 4) (.tmp 71) rfl w2.heap.size 30 rZ (rC y fm7 (.slice ao7 st7.length c7)) HW.out.rd rfl rfl HLD.out HID.out HOD.out ?_
    intro v1 hb1 hc1 hs1
    simp only [Act.put, List.setIfInBounds_toArray, List.set_cons_zero, List.set_cons_succ]
    refine QK.normal ⟨HW.out.rng1 hc1, ?_⟩
    refine' wpAnyH_one 4 (by kernel_rfl) ?_ ?_; rotate_left; (simp only [List.getElem?_toArray, List.getElem?_cons_zero, List.getElem?_cons_succ]; rfl)
    refine wpList_store_blk v1 rfl 39 (.tmp 5) (.tmp 72) rfl w3.heap.size 39 (ofK .u8 zer) (ofK .u8 zer) (HW.out.rb.keep hc1 (fun e => by have o := HW.out.ord; have e : w3.heap.size = w2.heap.size := e; omega)) rfl rfl rfl HIB.out (one_ofK _ _) ?_
    intro v2 hb2 hc2 hs2
    simp only [Act.put, List.setIfInBounds_toArray, List.set_cons_zero, List.set_cons_succ]
    refine QK.normal ⟨HW.out.rng2 hc1 hc2, ?_⟩
    have HOU := Lib.hid (HW.out.outs hb1 hc1 hb2 hc2)
    have HSE := Lib.hid ((HSW.out.set hc1 (by have o := HW.out.ord; omega) (by have o := HW.out.ord; omega)).set hc2 (by have o := HW.out.ord; omega) (by have o := HW.out.ord; omega))
    have HR2 := Lib.hid (HW.out.rng2 hc1 hc2)
    clear hb1 hc1 hs1 hb2 hc2 hs2
    refine' wpAnyH_one 5 (by kernel_rfl) ?_ ?_; rotate_left; (simp only [List.getElem?_toArray, List.getElem?_cons_zero, List.getElem?_cons_succ]; rfl)
    go_wp2_with fail
    refine QK.normal ⟨HR2.out, ?_⟩
    refine wpAnyH_done (by kernel_rfl) ?_ _
    refine NoPanic.normal ?_
    go_wp2_with fail
    refine bodyPost_ret (results_cct Try.results38 _ _ w2.heap.size w3.heap.size _ _ _ _ rfl rfl HOU.out.1 HOU.out.2.1 _ _ Try.underlying30 rfl HID.out Try.underlying39 rfl HIB.out _ rfl) rfl ?_
    exact ⟨_, st7, fm7, rfl, HSE.out.st, HR7.out.1, HR7.out.2, HSE.out.src, HOU.out.2.2⟩

set_option maxRecDepth 100000 in
set_option maxHeartbeats 8000000 in
theorem ought_2 (x : Dk) (fm n : Nat) (sv : Value) (st : List Wr) (a : ActD) (ka : Option Addr) (kl kc : Nat) (w : World) (y : Dk) (b : List Int) (m : Int) (hs : StAt w sv st) (hk : ∀ k, sv.ownBlock = some k → k < w.heap.size) (hr : RefOf x st fm) (hx : x.Ok n) (hn : n ≤ 1073741824) (hl : st.length + 1 ≤ 1073741824) (ha : ActOk w a (.slice ka kl kc)) (hq : kindF a.kind = 2) (hy : actF x a = y) (hb : actB x a = b) (hm : actE x a = m) :
    Calls Try.prog 38 #[.agg (rC x fm sv).toArray, .agg (actC a (.slice ka kl kc)).toArray] w (OughtP w sv (st.length + 1) y b m) := by
  obtain ⟨ao, c, rfl, -⟩ := id hs
  have e1 : actF x a = syncD x := by simp [actF, hq]
  have e2 : actB x a = zer := by simp [actB, hq]
  have e3 : actE x a = askE x 0 true := by simp [actE, hq]
  rw [e1] at hy
  rw [e2] at hb
  rw [e3] at hm
  subst hb
  have HY := Lib.hid (And.intro hy hm)
  clear e1 e2 e3 hy hm
  have HIX := Lib.hid (infoR x fm (.slice ao st.length c))
  have HIZ := Lib.hid (infoB isB_zer)
  have HIA := Lib.hid (infoA a (.slice ka kl kc))
  have HS0 := Lib.hid (And.intro hs hk)
  have HR := Lib.hid (And.intro hr (And.intro hx (And.intro hn (And.intro hl ha))))
  clear hs hr hx hn hl ha hk
  go_enter Try.func38, Try.ntmps38
  go_wp2_with (first
    | (with_reducible refine wpList_box_blk w rfl 30 (.tmp 0) rfl (rC x fm (.slice ao st.length c)) rfl ?_; intro w1 hb1 hbel1 hsz1; have HB1 := Lib.hid (And.intro hb1 (And.intro hbel1 hsz1)); clear hb1 hbel1 hsz1)
    | (with_reducible refine wpList_box_blk w1 rfl 49 (.tmp 1) rfl (actC a (.slice ka kl kc)) rfl ?_; intro w2 hb hbel hsz; have HB2 := Lib.hid (And.intro hb (And.intro (HB1.out.1.below hbel HB1.out.1.lt) (And.intro (below_thn HB1.out.2.1 hbel (Nat.le_refl _)) (show w.heap.size < w1.heap.size ∧ w1.heap.size < w2.heap.size by have := HB1.out.2.2; omega)))); clear hb hbel hsz)
    | ((with_reducible refine wpList_alloc_blk w2 rfl 30 rfl rZ Try.zeroRd ?_); intro w3 hb hbel hsz; have HB3 := Lib.hid (And.intro hb (And.intro (HB2.out.1.below hbel HB2.out.1.lt) (And.intro (HB2.out.2.1.below hbel HB2.out.2.1.lt) (And.intro (below_thn HB2.out.2.2.1 hbel (Nat.le_refl _)) (show w.heap.size < w1.heap.size ∧ w1.heap.size < w2.heap.size ∧ w2.heap.size < w3.heap.size by have := HB2.out.2.2.2; omega))))); clear hb hbel hsz)
    | ((with_reducible refine wpList_alloc_blk w3 rfl 39 rfl (ofK .u8 zer) Try.zeroBl ?_); intro w4 hb hbel hsz; have HB4 := Lib.hid (And.intro hb (And.intro (HB3.out.1.below hbel HB3.out.1.lt) (And.intro (HB3.out.2.1.below hbel HB3.out.2.1.lt) (And.intro (HB3.out.2.2.1.below hbel HB3.out.2.2.1.lt) (And.intro (below_thn HB3.out.2.2.2.1 hbel (Nat.le_refl _)) (show w.heap.size < w1.heap.size ∧ w1.heap.size < w2.heap.size ∧ w2.heap.size < w3.heap.size ∧ w3.heap.size < w4.heap.size by have := HB3.out.2.2.2.2; omega)))))); clear hb hbel hsz)
    | ((with_reducible refine wpList_alloc_blk w4 rfl 39 rfl (ofK .u8 zer) Try.zeroBl ?_); intro w5 hb hbel hsz; have H5 := Lib.hid (show OuI w w.heap.size w1.heap.size w2.heap.size w3.heap.size w4.heap.size (rC x fm (.slice ao st.length c)) zer (actC a (.slice ka kl kc)) w5 from ⟨HB4.out.2.2.2.1.below hbel HB4.out.2.2.2.1.lt, HB4.out.2.2.1.below hbel HB4.out.2.2.1.lt, HB4.out.2.1.below hbel HB4.out.2.1.lt, HB4.out.1.below hbel HB4.out.1.lt, hb, below_thn HB4.out.2.2.2.2.1 hbel (Nat.le_refl _), rfl, HB4.out.2.2.2.2.2⟩); have HRA := Lib.hid (rangeW_blk H5.out.act); clear hb hbel hsz)
    | (with_reducible refine wpList_load_any rfl 49 (.tmp 3) rfl w1.heap.size 0 rfl (actC a (.slice ka kl kc)) _ HRA.out Try.underlying49 rfl HIA.out ?_))
  refine (kind_go a.kind a.at_ a.n a.fill 2 _ _ hq).mono ?_
  rintro e w6 ⟨rfl, hb6⟩
  have H6 := Lib.hid (H5.out.below hb6)
  have HS6 := Lib.hid (StO.start (B4 := w4.heap.size) HS0.out.1 HS0.out.2 H6.out.bel)
  have HRX := Lib.hid H6.out.rngs.1
  have HRB := Lib.hid H6.out.rngs.2
  clear hb6 HB1 HB2 HB3 HB4 H5 HRA
  go_wp2_with (first
    | (with_reducible refine wpList_load_any rfl 30 (.tmp 2) rfl w.heap.size 0 rfl (rC x fm (.slice ao st.length c)) _ HRX.out Try.underlying30 rfl HIX.out ?_)
    | (with_reducible refine wpList_load_any rfl 39 (.tmp 7) rfl w4.heap.size 0 rfl (ofK .u8 zer) _ HRB.out Try.underlying39 rfl HIZ.out ?_))
  refine (rask_sy (n := n) 0 zer y m HS6.out.st HR.out.1 HR.out.2.1 HR.out.2.2.1 HY.out.1 HY.out.2).mono ?_
  rintro e w7 ⟨sv7, st7, fm7, rfl, hs7, hr7, hl7, hk7, hb7⟩
  obtain ⟨ao7, c7, rfl, -⟩ := id hs7
  have H7 := Lib.hid (H6.out.below hb7)
  have HS7 := Lib.hid (StO.next H6.out HS0.out.2 hs7 hk7)
  have HR7 := Lib.hid (And.intro hr7 hl7)
  clear hs7 hk7 hr7 hl7 hb7
  have HLL := Lib.hid (show (rC y fm7 (.slice ao7 st7.length c7)).length = (rC x fm (.slice ao st.length c)).length from rfl)
  have HID := Lib.hid (infoR y fm7 (.slice ao7 st7.length c7))
  have HLD := Lib.hid (lenR y fm7 (.slice ao7 st7.length c7))
  have HOD := Lib.hid (oneR y fm7 ao7 st7.length c7)
  have HIB := Lib.hid (infoB isB_zer)

  go_wp2_with (first
    | ((with_reducible refine wpList_store_blk w7 rfl 30 (.tmp 2) (.tmp 45) rfl w.heap.size 30 (rC x fm (.slice ao st.length c)) (rC y fm7 (.slice ao7 st7.length c7)) H7.out.box rfl rfl HLL.out HID.out HOD.out ?_); intro w8 hb hc hs; have H8 := Lib.hid (H7.out.setBox hb hc); have HS8 := Lib.hid (HS7.out.set hc (Nat.le_refl _) (by have o := H7.out.ord; omega)); clear hb hc hs))
  have HW := Lib.hid (H8.out.below (Below.refl _ w8).drew)
  have HSW := Lib.hid (HS8.out.below (Below.refl _ w8).drew)
  refine wp_region_takes (fun w' => w'.rangeAt w.heap.size 0 (rC y fm7 (.slice ao7 st7.length c7)) ∧ w'.rangeAt w4.heap.size 0 (ofK .u8 zer)) [0, 1, 2] 3 (by kernel_rfl) rfl (by kernel_rfl) (by kernel_rfl) HW.out.rngs ?_
  generalize w8.drew = v0 at HW HSW ⊢
  refine' HeldL.run ?_ ?_ ?_ ?_; rotate_left 2; (simp only [List.getElem?_toArray, List.getElem?_cons_zero, List.getElem?_cons_succ]; rfl); rfl; (rintro w' ⟨k0, k1⟩; exact exec_load_mid rfl rfl k0 Try.underlying30 rfl HID.out); simp only [Act.put, List.setIfInBounds_toArray, List.set_cons_zero, List.set_cons_succ]
  refine' HeldL.run ?_ ?_ ?_ ?_; rotate_left 2; (simp only [List.getElem?_toArray, List.getElem?_cons_zero, List.getElem?_cons_succ]; rfl); rfl; (rintro w' ⟨k0, k1⟩; exact exec_load_mid rfl rfl k1 Try.underlying39 rfl HIB.out); simp only [Act.put, List.setIfInBounds_toArray, List.set_cons_zero, List.set_cons_succ]
  refine' HeldL.run ?_ ?_ ?_ ?_; rotate_left 2; (simp only [List.getElem?_toArray, List.getElem?_cons_zero, List.getElem?_cons_succ]; rfl); rfl; (rintro w' ⟨k0, k1⟩; go_simp; with_reducible rfl); simp only [Act.put, List.setIfInBounds_toArray, List.set_cons_zero, List.set_cons_succ]
  refine' wpAnyH_one 3 (by kernel_rfl) ?_ ?_; rotate_left; (simp only [List.getElem?_toArray, List.getElem?_cons_zero, List.getElem?_cons_succ]; rfl)
  refine wpList_store_blk v0 rfl 30 (.tmp 4) (.tmp 71) rfl w2.heap.size 30 rZ (rC y fm7 (.slice ao7 st7.length c7)) HW.out.rd rfl rfl HLD.out HID.out HOD.out ?_
  intro v1 hb1 hc1 hs1
  simp only [Act.put, List.setIfInBounds_toArray, List.set_cons_zero, List.set_cons_succ]
  refine QK.normal ⟨HW.out.rng1 hc1, ?_⟩
  refine' wpAnyH_one 4 (by kernel_rfl) ?_ ?_; rotate_left; (simp only [List.getElem?_toArray, List.getElem?_cons_zero, List.getElem?_cons_succ]; rfl)
  refine wpList_store_blk v1 rfl 39 (.tmp 5) (.tmp 72) rfl w3.heap.size 39 (ofK .u8 zer) (ofK .u8 zer) (HW.out.rb.keep hc1 (fun e => by have o := HW.out.ord; have e : w3.heap.size = w2.heap.size := e; omega)) rfl rfl rfl HIB.out (one_ofK _ _) ?_
  intro v2 hb2 hc2 hs2
  simp only [Act.put, List.setIfInBounds_toArray, List.set_cons_zero, List.set_cons_succ]
  refine QK.normal ⟨HW.out.rng2 hc1 hc2, ?_⟩
  have HOU := Lib.hid (HW.out.outs hb1 hc1 hb2 hc2)
  have HSE := Lib.hid ((HSW.out.set hc1 (by have o := HW.out.ord; omega) (by have o := HW.out.ord; omega)).set hc2 (by have o := HW.out.ord; omega) (by have o := HW.out.ord; omega))
  have HR2 := Lib.hid (HW.out.rng2 hc1 hc2)
  clear hb1 hc1 hs1 hb2 hc2 hs2
  refine' wpAnyH_one 5 (by kernel_rfl) ?_ ?_; rotate_left; (simp only [List.getElem?_toArray, List.getElem?_cons_zero, List.getElem?_cons_succ]; rfl)
  go_wp2_with fail
  refine QK.normal ⟨HR2.out, ?_⟩
  refine wpAnyH_done (by kernel_rfl) ?_ _
  refine NoPanic.normal ?_
  go_wp2_with fail
  refine bodyPost_ret (results_cct Try.results38 _ _ w2.heap.size w3.heap.size _ _ _ _ rfl rfl HOU.out.1 HOU.out.2.1 _ _ Try.underlying30 rfl HID.out Try.underlying39 rfl HIB.out _ rfl) rfl ?_
  exact ⟨_, st7, fm7, rfl, HSE.out.st, HR7.out.1, HR7.out.2, HSE.out.src, HOU.out.2.2⟩

set_option maxRecDepth 100000 in
set_option maxHeartbeats 8000000 in
theorem ought_5 (x : Dk) (fm n : Nat) (sv : Value) (st : List Wr) (a : ActD) (ka : Option Addr) (kl kc : Nat) (w : World) (y : Dk) (b : List Int) (m : Int) (hs : StAt w sv st) (hk : ∀ k, sv.ownBlock = some k → k < w.heap.size) (hr : RefOf x st fm) (hx : x.Ok n) (hn : n ≤ 1073741824) (hl : st.length + 1 ≤ 1073741824) (ha : ActOk w a (.slice ka kl kc)) (hq : kindF a.kind = 5) (hy : actF x a = y) (hb : actB x a = b) (hm : actE x a = m) :
    Calls Try.prog 38 #[.agg (rC x fm sv).toArray, .agg (actC a (.slice ka kl kc)).toArray] w (OughtP w sv (st.length + 1) y b m) := by
  obtain ⟨ao, c, rfl, -⟩ := id hs
  have e1 : actF x a = crashD a.keep x := by simp [actF, hq]
  have e2 : actB x a = zer := by simp [actB, hq]
  have e3 : actE x a = 0 := by simp [actE, hq]
  rw [e1] at hy
  rw [e2] at hb
  rw [e3] at hm
  subst hy hb hm
  clear e1 e2 e3
  have hkl : kl = a.keep.length := sl_len ha.sl
  subst hkl
  have HIX := Lib.hid (infoR x fm (.slice ao st.length c))
  have HIZ := Lib.hid (infoB isB_zer)
  have HIA := Lib.hid (infoA a (.slice ka a.keep.length kc))
  have HS0 := Lib.hid (And.intro hs hk)
  have HR := Lib.hid (And.intro hr (And.intro hx (And.intro hn (And.intro hl ha))))
  clear hs hr hx hn hl ha hk
  go_enter Try.func38, Try.ntmps38
  go_wp2_with (first
    | (with_reducible refine wpList_box_blk w rfl 30 (.tmp 0) rfl (rC x fm (.slice ao st.length c)) rfl ?_; intro w1 hb1 hbel1 hsz1; have HB1 := Lib.hid (And.intro hb1 (And.intro hbel1 hsz1)); clear hb1 hbel1 hsz1)
    | (with_reducible refine wpList_box_blk w1 rfl 49 (.tmp 1) rfl (actC a (.slice ka a.keep.length kc)) rfl ?_; intro w2 hb hbel hsz; have HB2 := Lib.hid (And.intro hb (And.intro (HB1.out.1.below hbel HB1.out.1.lt) (And.intro (below_thn HB1.out.2.1 hbel (Nat.le_refl _)) (show w.heap.size < w1.heap.size ∧ w1.heap.size < w2.heap.size by have := HB1.out.2.2; omega)))); clear hb hbel hsz)
    | ((with_reducible refine wpList_alloc_blk w2 rfl 30 rfl rZ Try.zeroRd ?_); intro w3 hb hbel hsz; have HB3 := Lib.hid (And.intro hb (And.intro (HB2.out.1.below hbel HB2.out.1.lt) (And.intro (HB2.out.2.1.below hbel HB2.out.2.1.lt) (And.intro (below_thn HB2.out.2.2.1 hbel (Nat.le_refl _)) (show w.heap.size < w1.heap.size ∧ w1.heap.size < w2.heap.size ∧ w2.heap.size < w3.heap.size by have := HB2.out.2.2.2; omega))))); clear hb hbel hsz)
    | ((with_reducible refine wpList_alloc_blk w3 rfl 39 rfl (ofK .u8 zer) Try.zeroBl ?_); intro w4 hb hbel hsz; have HB4 := Lib.hid (And.intro hb (And.intro (HB3.out.1.below hbel HB3.out.1.lt) (And.intro (HB3.out.2.1.below hbel HB3.out.2.1.lt) (And.intro (HB3.out.2.2.1.below hbel HB3.out.2.2.1.lt) (And.intro (below_thn HB3.out.2.2.2.1 hbel (Nat.le_refl _)) (show w.heap.size < w1.heap.size ∧ w1.heap.size < w2.heap.size ∧ w2.heap.size < w3.heap.size ∧ w3.heap.size < w4.heap.size by have := HB3.out.2.2.2.2; omega)))))); clear hb hbel hsz)
    | ((with_reducible refine wpList_alloc_blk w4 rfl 39 rfl (ofK .u8 zer) Try.zeroBl ?_); intro w5 hb hbel hsz; have H5 := Lib.hid (show OuI w w.heap.size w1.heap.size w2.heap.size w3.heap.size w4.heap.size (rC x fm (.slice ao st.length c)) zer (actC a (.slice ka a.keep.length kc)) w5 from ⟨HB4.out.2.2.2.1.below hbel HB4.out.2.2.2.1.lt, HB4.out.2.2.1.below hbel HB4.out.2.2.1.lt, HB4.out.2.1.below hbel HB4.out.2.1.lt, HB4.out.1.below hbel HB4.out.1.lt, hb, below_thn HB4.out.2.2.2.2.1 hbel (Nat.le_refl _), rfl, HB4.out.2.2.2.2.2⟩); have HRA := Lib.hid (rangeW_blk H5.out.act); clear hb hbel hsz)
    | (with_reducible refine wpList_load_any rfl 49 (.tmp 3) rfl w1.heap.size 0 rfl (actC a (.slice ka a.keep.length kc)) _ HRA.out Try.underlying49 rfl HIA.out ?_))
  refine (kind_go a.kind a.at_ a.n a.fill 5 _ _ hq).mono ?_
  rintro e w6 ⟨rfl, hb6⟩
  have H6 := Lib.hid (H5.out.below hb6)
  have HS6 := Lib.hid (StO.start (B4 := w4.heap.size) HS0.out.1 HS0.out.2 H6.out.bel)
  have HRX := Lib.hid H6.out.rngs.1
  have HRB := Lib.hid H6.out.rngs.2
  clear hb6 HB1 HB2 HB3 HB4 H5 HRA
  have a4 := H6.out.act.cell 4
  simp only [actC, List.getElem?_cons_succ, List.getElem?_cons_zero] at a4
  go_wp2_with (first
    | (with_reducible refine wpList_load_any rfl 30 (.tmp 2) rfl w.heap.size 0 rfl (rC x fm (.slice ao st.length c)) _ HRX.out Try.underlying30 rfl HIX.out ?_))
  have hks := ha6 H6.out.bel HR.out.2.2.2.2
  refine (rcrash_any x fm _ _ st ka kc a.keep w6 HS6.out.st HR.out.1 (by have := HR.out.2.2.2.1; omega) hks rfl).mono ?_
  rintro e w7 ⟨sv7, rfl, hs7, hk7, hb7⟩
  clear hks a4
  have hl7 := crashS_len a.keep st fm HR.out.1.le
  have hr7 := HR.out.1.crash a.keep
  obtain ⟨ao7, c7, rfl, -⟩ := id hs7
  have H7 := Lib.hid (H6.out.below hb7)
  have HS7 := Lib.hid (StO.next H6.out HS0.out.2 hs7 (fun k h => .inr (hk7 k h)))
  have HR7 := Lib.hid (And.intro hr7 hl7)
  clear hs7 hk7 hr7 hl7 hb7
  have HLL := Lib.hid (show (rC (crashD a.keep x) (crashS a.keep st fm).length (.slice ao7 (crashS a.keep st fm).length c7)).length = (rC x fm (.slice ao st.length c)).length from rfl)
  have HID := Lib.hid (infoR (crashD a.keep x) (crashS a.keep st fm).length (.slice ao7 (crashS a.keep st fm).length c7))
  have HLD := Lib.hid (lenR (crashD a.keep x) (crashS a.keep st fm).length (.slice ao7 (crashS a.keep st fm).length c7))
  have HOD := Lib.hid (oneR (crashD a.keep x) (crashS a.keep st fm).length ao7 (crashS a.keep st fm).length c7)
  have HIB := Lib.hid (infoB isB_zer)

  go_wp2_with (first
    | ((with_reducible refine wpList_store_blk w7 rfl 30 (.tmp 2) (.tmp 70) rfl w.heap.size 30 (rC x fm (.slice ao st.length c)) (rC (crashD a.keep x) (crashS a.keep st fm).length (.slice ao7 (crashS a.keep st fm).length c7)) H7.out.box rfl rfl HLL.out HID.out HOD.out ?_); intro w8 hb hc hs; have H8 := Lib.hid (H7.out.setBox hb hc); have HS8 := Lib.hid (HS7.out.set hc (Nat.le_refl _) (by have o := H7.out.ord; omega)); clear hb hc hs))
  have HW := Lib.hid (H8.out.below (Below.refl _ w8).drew)
  have HSW := Lib.hid (HS8.out.below (Below.refl _ w8).drew)
  refine wp_region_takes (fun w' => w'.rangeAt w.heap.size 0 (rC (crashD a.keep x) (crashS a.keep st fm).length (.slice ao7 (crashS a.keep st fm).length c7)) ∧ w'.rangeAt w4.heap.size 0 (ofK .u8 zer)) [0, 1, 2] 3 (by kernel_rfl) rfl (by kernel_rfl) (by kernel_rfl) HW.out.rngs ?_
  generalize w8.drew = v0 at HW HSW ⊢
  refine' HeldL.run ?_ ?_ ?_ ?_; rotate_left 2; (simp only [List.getElem?_toArray, List.getElem?_cons_zero, List.getElem?_cons_succ]; rfl); rfl; (rintro w' ⟨k0, k1⟩; exact exec_load_mid rfl rfl k0 Try.underlying30 rfl HID.out); simp only [Act.put, List.setIfInBounds_toArray, List.set_cons_zero, List.set_cons_succ]
  refine' HeldL.run ?_ ?_ ?_ ?_; rotate_left 2; (simp only [List.getElem?_toArray, List.getElem?_cons_zero, List.getElem?_cons_succ]; rfl); rfl; (rintro w' ⟨k0, k1⟩; exact exec_load_mid rfl rfl k1 Try.underlying39 rfl HIB.out); simp only [Act.put, List.setIfInBounds_toArray, List.set_cons_zero, List.set_cons_succ]
  refine' HeldL.run ?_ ?_ ?_ ?_; rotate_left 2; (simp only [List.getElem?_toArray, List.getElem?_cons_zero, List.getElem?_cons_succ]; rfl); rfl; (rintro w' ⟨k0, k1⟩; go_simp; with_reducible rfl); simp only [Act.put, List.setIfInBounds_toArray, List.set_cons_zero, List.set_cons_succ]
  refine' wpAnyH_one 3 (by kernel_rfl) ?_ ?_; rotate_left; (simp only [List.getElem?_toArray, List.getElem?_cons_zero, List.getElem?_cons_succ]; rfl)
  refine wpList_store_blk v0 rfl 30 (.tmp 4) (.tmp 71) rfl w2.heap.size 30 rZ (rC (crashD a.keep x) (crashS a.keep st fm).length (.slice ao7 (crashS a.keep st fm).length c7)) HW.out.rd rfl rfl HLD.out HID.out HOD.out ?_
  intro v1 hb1 hc1 hs1
  simp only [Act.put, List.setIfInBounds_toArray, List.set_cons_zero, List.set_cons_succ]
  refine QK.normal ⟨HW.out.rng1 hc1, ?_⟩
  refine' wpAnyH_one 4 (by kernel_rfl) ?_ ?_; rotate_left; (simp only [List.getElem?_toArray, List.getElem?_cons_zero, List.getElem?_cons_succ]; rfl)
  refine wpList_store_blk v1 rfl 39 (.tmp 5) (.tmp 72) rfl w3.heap.size 39 (ofK .u8 zer) (ofK .u8 zer) (HW.out.rb.keep hc1 (fun e => by have o := HW.out.ord; have e : w3.heap.size = w2.heap.size := e; omega)) rfl rfl rfl HIB.out (one_ofK _ _) ?_
  intro v2 hb2 hc2 hs2
  simp only [Act.put, List.setIfInBounds_toArray, List.set_cons_zero, List.set_cons_succ]
  refine QK.normal ⟨HW.out.rng2 hc1 hc2, ?_⟩
  have HOU := Lib.hid (HW.out.outs hb1 hc1 hb2 hc2)
  have HSE := Lib.hid ((HSW.out.set hc1 (by have o := HW.out.ord; omega) (by have o := HW.out.ord; omega)).set hc2 (by have o := HW.out.ord; omega) (by have o := HW.out.ord; omega))
  have HR2 := Lib.hid (HW.out.rng2 hc1 hc2)
  clear hb1 hc1 hs1 hb2 hc2 hs2
  refine' wpAnyH_one 5 (by kernel_rfl) ?_ ?_; rotate_left; (simp only [List.getElem?_toArray, List.getElem?_cons_zero, List.getElem?_cons_succ]; rfl)
  go_wp2_with fail
  refine QK.normal ⟨HR2.out, ?_⟩
  refine wpAnyH_done (by kernel_rfl) ?_ _
  refine NoPanic.normal ?_
  go_wp2_with fail
  refine bodyPost_ret (results_cct Try.results38 _ _ w2.heap.size w3.heap.size _ _ _ _ rfl rfl HOU.out.1 HOU.out.2.1 _ _ Try.underlying30 rfl HID.out Try.underlying39 rfl HIB.out _ rfl) rfl ?_
  exact ⟨_, _, _, rfl, HSE.out.st, HR7.out.1, by have := HR7.out.2; omega, HSE.out.src, HOU.out.2.2⟩

set_option maxRecDepth 100000 in
set_option maxHeartbeats 8000000 in
theorem ought_3 (x : Dk) (fm n : Nat) (sv : Value) (st : List Wr) (a : ActD) (ka : Option Addr) (kl kc : Nat) (w : World) (y : Dk) (b : List Int) (m : Int) (hs : StAt w sv st) (hk : ∀ k, sv.ownBlock = some k → k < w.heap.size) (hr : RefOf x st fm) (hx : x.Ok n) (hn : n ≤ 1073741824) (hl : st.length + 1 ≤ 1073741824) (ha : ActOk w a (.slice ka kl kc)) (hq : kindF a.kind = 3) (hy : actF x a = y) (hb : actB x a = b) (hm : actE x a = m) :
    Calls Try.prog 38 #[.agg (rC x fm sv).toArray, .agg (actC a (.slice ka kl kc)).toArray] w (OughtP w sv (st.length + 1) y b m) := by
  obtain ⟨ao, c, rfl, -⟩ := id hs
  have e1 : actF x a = armF x a.n := by simp [actF, hq]
  have e2 : actB x a = zer := by simp [actB, hq]
  have e3 : actE x a = powE x := by simp [actE, hq]
  rw [e1] at hy
  rw [e2] at hb
  rw [e3] at hm
  subst hb
  clear e1 e2 e3
  by_cases ho : x.out = true
  · obtain rfl : y = x := by rw [← hy]; exact if_pos ho
    obtain rfl : m = 9 := by rw [← hm]; exact if_pos ho
    clear hy hm
    have HIX := Lib.hid (infoR y fm (.slice ao st.length c))
    have HIZ := Lib.hid (infoB isB_zer)
    have HIA := Lib.hid (infoA a (.slice ka kl kc))
    have HS0 := Lib.hid (And.intro hs hk)
    have HR := Lib.hid (And.intro hr (And.intro hx (And.intro hn (And.intro hl ha))))
    clear hs hr hx hn hl ha hk
    go_enter Try.func38, Try.ntmps38
    go_wp2_with (first
      | (with_reducible refine wpList_box_blk w rfl 30 (.tmp 0) rfl (rC y fm (.slice ao st.length c)) rfl ?_; intro w1 hb1 hbel1 hsz1; have HB1 := Lib.hid (And.intro hb1 (And.intro hbel1 hsz1)); clear hb1 hbel1 hsz1)
      | (with_reducible refine wpList_box_blk w1 rfl 49 (.tmp 1) rfl (actC a (.slice ka kl kc)) rfl ?_; intro w2 hb hbel hsz; have HB2 := Lib.hid (And.intro hb (And.intro (HB1.out.1.below hbel HB1.out.1.lt) (And.intro (below_thn HB1.out.2.1 hbel (Nat.le_refl _)) (show w.heap.size < w1.heap.size ∧ w1.heap.size < w2.heap.size by have := HB1.out.2.2; omega)))); clear hb hbel hsz)
      | ((with_reducible refine wpList_alloc_blk w2 rfl 30 rfl rZ Try.zeroRd ?_); intro w3 hb hbel hsz; have HB3 := Lib.hid (And.intro hb (And.intro (HB2.out.1.below hbel HB2.out.1.lt) (And.intro (HB2.out.2.1.below hbel HB2.out.2.1.lt) (And.intro (below_thn HB2.out.2.2.1 hbel (Nat.le_refl _)) (show w.heap.size < w1.heap.size ∧ w1.heap.size < w2.heap.size ∧ w2.heap.size < w3.heap.size by have := HB2.out.2.2.2; omega))))); clear hb hbel hsz)
      | ((with_reducible refine wpList_alloc_blk w3 rfl 39 rfl (ofK .u8 zer) Try.zeroBl ?_); intro w4 hb hbel hsz; have HB4 := Lib.hid (And.intro hb (And.intro (HB3.out.1.below hbel HB3.out.1.lt) (And.intro (HB3.out.2.1.below hbel HB3.out.2.1.lt) (And.intro (HB3.out.2.2.1.below hbel HB3.out.2.2.1.lt) (And.intro (below_thn HB3.out.2.2.2.1 hbel (Nat.le_refl _)) (show w.heap.size < w1.heap.size ∧ w1.heap.size < w2.heap.size ∧ w2.heap.size < w3.heap.size ∧ w3.heap.size < w4.heap.size by have := HB3.out.2.2.2.2; omega)))))); clear hb hbel hsz)
      | ((with_reducible refine wpList_alloc_blk w4 rfl 39 rfl (ofK .u8 zer) Try.zeroBl ?_); intro w5 hb hbel hsz; have H5 := Lib.hid (show OuI w w.heap.size w1.heap.size w2.heap.size w3.heap.size w4.heap.size (rC y fm (.slice ao st.length c)) zer (actC a (.slice ka kl kc)) w5 from ⟨HB4.out.2.2.2.1.below hbel HB4.out.2.2.2.1.lt, HB4.out.2.2.1.below hbel HB4.out.2.2.1.lt, HB4.out.2.1.below hbel HB4.out.2.1.lt, HB4.out.1.below hbel HB4.out.1.lt, hb, below_thn HB4.out.2.2.2.2.1 hbel (Nat.le_refl _), rfl, HB4.out.2.2.2.2.2⟩); have HRA := Lib.hid (rangeW_blk H5.out.act); clear hb hbel hsz)
      | (with_reducible refine wpList_load_any rfl 49 (.tmp 3) rfl w1.heap.size 0 rfl (actC a (.slice ka kl kc)) _ HRA.out Try.underlying49 rfl HIA.out ?_))
    refine (kind_go a.kind a.at_ a.n a.fill 3 _ _ hq).mono ?_
    rintro e w6 ⟨rfl, hb6⟩
    have H6 := Lib.hid (H5.out.below hb6)
    have HS6 := Lib.hid (StO.start (B4 := w4.heap.size) HS0.out.1 HS0.out.2 H6.out.bel)
    have HRX := Lib.hid H6.out.rngs.1
    have HRB := Lib.hid H6.out.rngs.2
    clear hb6 HB1 HB2 HB3 HB4 H5 HRA
    have c3 := H6.out.box.cell 3
    simp only [rC, List.getElem?_cons_succ, List.getElem?_cons_zero, ho] at c3
    have HID := Lib.hid (infoR y fm (.slice ao st.length c))
    have HLD := Lib.hid (lenR y fm (.slice ao st.length c))
    have HOD := Lib.hid (oneR y fm ao st.length c)
    have HIB := Lib.hid (infoB isB_zer)

    go_wp2_with fail
    have HW := Lib.hid (H6.out.below (Below.refl _ w6).drew)
    have HSW := Lib.hid (HS6.out.below (Below.refl _ w6).drew)
    refine wp_region_takes (fun w' => w'.rangeAt w.heap.size 0 (rC y fm (.slice ao st.length c)) ∧ w'.rangeAt w4.heap.size 0 (ofK .u8 zer)) [0, 1] 3 (by kernel_rfl) rfl (by kernel_rfl) (by kernel_rfl) HW.out.rngs ?_
    generalize w6.drew = v0 at HW HSW ⊢
    refine' HeldL.run ?_ ?_ ?_ ?_; rotate_left 2; (simp only [List.getElem?_toArray, List.getElem?_cons_zero, List.getElem?_cons_succ]; rfl); rfl; (rintro w' ⟨k0, k1⟩; exact exec_load_mid rfl rfl k0 Try.underlying30 rfl HID.out); simp only [Act.put, List.setIfInBounds_toArray, List.set_cons_zero, List.set_cons_succ]
    refine' HeldL.run ?_ ?_ ?_ ?_; rotate_left 2; (simp only [List.getElem?_toArray, List.getElem?_cons_zero, List.getElem?_cons_succ]; rfl); rfl; (rintro w' ⟨k0, k1⟩; exact exec_load_mid rfl rfl k1 Try.underlying39 rfl HIB.out); simp only [Act.put, List.setIfInBounds_toArray, List.set_cons_zero, List.set_cons_succ]
    refine' wpAnyH_one 2 (by kernel_rfl) ?_ ?_; rotate_left; (simp only [List.getElem?_toArray, List.getElem?_cons_zero, List.getElem?_cons_succ]; rfl)
    refine wpList_store_blk v0 rfl 30 (.tmp 4) (.tmp 52) rfl w2.heap.size 30 rZ (rC y fm (.slice ao st.length c)) HW.out.rd rfl rfl HLD.out HID.out HOD.out ?_
    intro v1 hb1 hc1 hs1
    simp only [Act.put, List.setIfInBounds_toArray, List.set_cons_zero, List.set_cons_succ]
    refine QK.normal ⟨HW.out.rng1 hc1, ?_⟩
    refine' wpAnyH_one 3 (by kernel_rfl) ?_ ?_; rotate_left; (simp only [List.getElem?_toArray, List.getElem?_cons_zero, List.getElem?_cons_succ]; rfl)
    refine wpList_store_blk v1 rfl 39 (.tmp 5) (.tmp 53) rfl w3.heap.size 39 (ofK .u8 zer) (ofK .u8 zer) (HW.out.rb.keep hc1 (fun e => by have o := HW.out.ord; have e : w3.heap.size = w2.heap.size := e; omega)) rfl rfl rfl HIB.out (one_ofK _ _) ?_
    intro v2 hb2 hc2 hs2
    simp only [Act.put, List.setIfInBounds_toArray, List.set_cons_zero, List.set_cons_succ]
    refine QK.normal ⟨HW.out.rng2 hc1 hc2, ?_⟩
    have HOU := Lib.hid (HW.out.outs hb1 hc1 hb2 hc2)
    have HSE := Lib.hid ((HSW.out.set hc1 (by have o := HW.out.ord; omega) (by have o := HW.out.ord; omega)).set hc2 (by have o := HW.out.ord; omega) (by have o := HW.out.ord; omega))
    have HR2 := Lib.hid (HW.out.rng2 hc1 hc2)
    clear hb1 hc1 hs1 hb2 hc2 hs2
    refine' wpAnyH_one 4 (by kernel_rfl) ?_ ?_; rotate_left; (simp only [List.getElem?_toArray, List.getElem?_cons_zero, List.getElem?_cons_succ]; rfl)
    go_wp2_with fail
    refine QK.normal ⟨HR2.out, ?_⟩
    refine wpAnyH_done (by kernel_rfl) ?_ _
    refine NoPanic.normal ?_
    go_wp2_with fail
    refine bodyPost_ret (results_cct Try.results38 _ _ w2.heap.size w3.heap.size _ _ _ _ rfl rfl HOU.out.1 HOU.out.2.1 _ _ Try.underlying30 rfl HID.out Try.underlying39 rfl HIB.out _ rfl) rfl ?_
    exact ⟨_, st, fm, rfl, HSE.out.st, HR.out.1, by omega, HSE.out.src, HOU.out.2.2⟩
  · have ho : x.out = false := by simpa using ho
    have hy2 : { x with arms := upF a.n } = y := by rw [← hy]; exact (if_neg (by rw [ho]; simp)).symm
    obtain rfl : m = 0 := by rw [← hm]; exact if_neg (by rw [ho]; simp)
    have hN := ha.n1
    have hN2 := ha.n2
    have hr2 : RefOf y st fm := by rw [← hy2]; exact hr.same rfl rfl
    have HRY := Lib.hid hr2
    have HYB := Lib.hid (show ∀ (wz : World), Blk wz w.heap.size 30 ((rC x fm (.slice ao st.length c)).set 4 (.int .i64 (upF a.n))) → Blk wz w.heap.size 30 (rC y fm (.slice ao st.length c)) from fun wz h => by rw [← hy2]; exact h)
    clear hy hm hy2 hr2
    have HIX := Lib.hid (infoR x fm (.slice ao st.length c))
    have HIZ := Lib.hid (infoB isB_zer)
    have HIA := Lib.hid (infoA a (.slice ka kl kc))
    have HS0 := Lib.hid (And.intro hs hk)
    have HR := Lib.hid (And.intro hr (And.intro hx (And.intro hn (And.intro hl ha))))
    clear hs hr hx hn hl ha hk
    go_enter Try.func38, Try.ntmps38
    go_wp2_with (first
      | (with_reducible refine wpList_box_blk w rfl 30 (.tmp 0) rfl (rC x fm (.slice ao st.length c)) rfl ?_; intro w1 hb1 hbel1 hsz1; have HB1 := Lib.hid (And.intro hb1 (And.intro hbel1 hsz1)); clear hb1 hbel1 hsz1)
      | (with_reducible refine wpList_box_blk w1 rfl 49 (.tmp 1) rfl (actC a (.slice ka kl kc)) rfl ?_; intro w2 hb hbel hsz; have HB2 := Lib.hid (And.intro hb (And.intro (HB1.out.1.below hbel HB1.out.1.lt) (And.intro (below_thn HB1.out.2.1 hbel (Nat.le_refl _)) (show w.heap.size < w1.heap.size ∧ w1.heap.size < w2.heap.size by have := HB1.out.2.2; omega)))); clear hb hbel hsz)
      | ((with_reducible refine wpList_alloc_blk w2 rfl 30 rfl rZ Try.zeroRd ?_); intro w3 hb hbel hsz; have HB3 := Lib.hid (And.intro hb (And.intro (HB2.out.1.below hbel HB2.out.1.lt) (And.intro (HB2.out.2.1.below hbel HB2.out.2.1.lt) (And.intro (below_thn HB2.out.2.2.1 hbel (Nat.le_refl _)) (show w.heap.size < w1.heap.size ∧ w1.heap.size < w2.heap.size ∧ w2.heap.size < w3.heap.size by have := HB2.out.2.2.2; omega))))); clear hb hbel hsz)
      | ((with_reducible refine wpList_alloc_blk w3 rfl 39 rfl (ofK .u8 zer) Try.zeroBl ?_); intro w4 hb hbel hsz; have HB4 := Lib.hid (And.intro hb (And.intro (HB3.out.1.below hbel HB3.out.1.lt) (And.intro (HB3.out.2.1.below hbel HB3.out.2.1.lt) (And.intro (HB3.out.2.2.1.below hbel HB3.out.2.2.1.lt) (And.intro (below_thn HB3.out.2.2.2.1 hbel (Nat.le_refl _)) (show w.heap.size < w1.heap.size ∧ w1.heap.size < w2.heap.size ∧ w2.heap.size < w3.heap.size ∧ w3.heap.size < w4.heap.size by have := HB3.out.2.2.2.2; omega)))))); clear hb hbel hsz)
      | ((with_reducible refine wpList_alloc_blk w4 rfl 39 rfl (ofK .u8 zer) Try.zeroBl ?_); intro w5 hb hbel hsz; have H5 := Lib.hid (show OuI w w.heap.size w1.heap.size w2.heap.size w3.heap.size w4.heap.size (rC x fm (.slice ao st.length c)) zer (actC a (.slice ka kl kc)) w5 from ⟨HB4.out.2.2.2.1.below hbel HB4.out.2.2.2.1.lt, HB4.out.2.2.1.below hbel HB4.out.2.2.1.lt, HB4.out.2.1.below hbel HB4.out.2.1.lt, HB4.out.1.below hbel HB4.out.1.lt, hb, below_thn HB4.out.2.2.2.2.1 hbel (Nat.le_refl _), rfl, HB4.out.2.2.2.2.2⟩); have HRA := Lib.hid (rangeW_blk H5.out.act); clear hb hbel hsz)
      | (with_reducible refine wpList_load_any rfl 49 (.tmp 3) rfl w1.heap.size 0 rfl (actC a (.slice ka kl kc)) _ HRA.out Try.underlying49 rfl HIA.out ?_))
    refine (kind_go a.kind a.at_ a.n a.fill 3 _ _ hq).mono ?_
    rintro e w6 ⟨rfl, hb6⟩
    have H6 := Lib.hid (H5.out.below hb6)
    have HS6 := Lib.hid (StO.start (B4 := w4.heap.size) HS0.out.1 HS0.out.2 H6.out.bel)
    have HRX := Lib.hid H6.out.rngs.1
    have HRB := Lib.hid H6.out.rngs.2
    clear hb6 HB1 HB2 HB3 HB4 H5 HRA
    have c3 := H6.out.box.cell 3
    simp only [rC, List.getElem?_cons_succ, List.getElem?_cons_zero, ho] at c3
    have HRA := Lib.hid (rangeW_blk H6.out.act)
    have HID := Lib.hid (infoR y fm (.slice ao st.length c))
    have HLD := Lib.hid (lenR y fm (.slice ao st.length c))
    have HOD := Lib.hid (oneR y fm ao st.length c)
    have HIB := Lib.hid (infoB isB_zer)

    go_wp2_with (first
      | (with_reducible refine wpList_load_any rfl 49 (.tmp 3) rfl w1.heap.size 0 rfl (actC a (.slice ka kl kc)) _ HRA.out Try.underlying49 rfl HIA.out ?_))
    refine (kind_go a.kind a.at_ a.n a.fill 3 _ _ hq).mono ?_
    rintro e w7 ⟨rfl, hb7⟩
    have H7 := Lib.hid (H6.out.below hb7)
    have HS7 := Lib.hid (HS6.out.below hb7)
    clear hb7 c3 HRA
    have a2 := H7.out.act.cell 2
    simp only [actC, List.getElem?_cons_succ, List.getElem?_cons_zero] at a2
    by_cases hn0 : -1 ≤ a.n
    · have hn1 : ¬ a.n < -1 := by omega
      have HU := Lib.hid (show upF a.n = a.n from upF_same hn0)
      go_wp2_with ((with_reducible refine wpList_store1 w7 rfl 3 (.tmp 60) (.tmp 59) rfl w.heap.size 4 30 (rC x fm (.slice ao st.length c)) H7.out.box rfl (.int .i64 a.n) rfl (rC_lt (by omega)) Try.infoI1 (int_one _ _) (int_cells _ _) ?_); intro w8 hb hc hs; have H8 := Lib.hid (H7.out.setBox (HYB.out w8 (by rw [HU.out]; exact hb)) hc); have HS8 := Lib.hid (HS7.out.set hc (Nat.le_refl _) (by have o := H7.out.ord; omega)); clear hb hc hs)
      have HW := Lib.hid (H8.out.below (Below.refl _ w8).drew)
      have HSW := Lib.hid (HS8.out.below (Below.refl _ w8).drew)
      refine wp_region_takes (fun w' => w'.rangeAt w.heap.size 0 (rC y fm (.slice ao st.length c)) ∧ w'.rangeAt w4.heap.size 0 (ofK .u8 zer)) [0, 1, 2] 3 (by kernel_rfl) rfl (by kernel_rfl) (by kernel_rfl) HW.out.rngs ?_
      generalize w8.drew = v0 at HW HSW ⊢
      refine' HeldL.run ?_ ?_ ?_ ?_; rotate_left 2; (simp only [List.getElem?_toArray, List.getElem?_cons_zero, List.getElem?_cons_succ]; rfl); rfl; (rintro w' ⟨k0, k1⟩; exact exec_load_mid rfl rfl k0 Try.underlying30 rfl HID.out); simp only [Act.put, List.setIfInBounds_toArray, List.set_cons_zero, List.set_cons_succ]
      refine' HeldL.run ?_ ?_ ?_ ?_; rotate_left 2; (simp only [List.getElem?_toArray, List.getElem?_cons_zero, List.getElem?_cons_succ]; rfl); rfl; (rintro w' ⟨k0, k1⟩; exact exec_load_mid rfl rfl k1 Try.underlying39 rfl HIB.out); simp only [Act.put, List.setIfInBounds_toArray, List.set_cons_zero, List.set_cons_succ]
      refine' HeldL.run ?_ ?_ ?_ ?_; rotate_left 2; (simp only [List.getElem?_toArray, List.getElem?_cons_zero, List.getElem?_cons_succ]; rfl); rfl; (rintro w' ⟨k0, k1⟩; go_simp; with_reducible rfl); simp only [Act.put, List.setIfInBounds_toArray, List.set_cons_zero, List.set_cons_succ]
      refine' wpAnyH_one 3 (by kernel_rfl) ?_ ?_; rotate_left; (simp only [List.getElem?_toArray, List.getElem?_cons_zero, List.getElem?_cons_succ]; rfl)
      refine wpList_store_blk v0 rfl 30 (.tmp 4) (.tmp 71) rfl w2.heap.size 30 rZ (rC y fm (.slice ao st.length c)) HW.out.rd rfl rfl HLD.out HID.out HOD.out ?_
      intro v1 hb1 hc1 hs1
      simp only [Act.put, List.setIfInBounds_toArray, List.set_cons_zero, List.set_cons_succ]
      refine QK.normal ⟨HW.out.rng1 hc1, ?_⟩
      refine' wpAnyH_one 4 (by kernel_rfl) ?_ ?_; rotate_left; (simp only [List.getElem?_toArray, List.getElem?_cons_zero, List.getElem?_cons_succ]; rfl)
      refine wpList_store_blk v1 rfl 39 (.tmp 5) (.tmp 72) rfl w3.heap.size 39 (ofK .u8 zer) (ofK .u8 zer) (HW.out.rb.keep hc1 (fun e => by have o := HW.out.ord; have e : w3.heap.size = w2.heap.size := e; omega)) rfl rfl rfl HIB.out (one_ofK _ _) ?_
      intro v2 hb2 hc2 hs2
      simp only [Act.put, List.setIfInBounds_toArray, List.set_cons_zero, List.set_cons_succ]
      refine QK.normal ⟨HW.out.rng2 hc1 hc2, ?_⟩
      have HOU := Lib.hid (HW.out.outs hb1 hc1 hb2 hc2)
      have HSE := Lib.hid ((HSW.out.set hc1 (by have o := HW.out.ord; omega) (by have o := HW.out.ord; omega)).set hc2 (by have o := HW.out.ord; omega) (by have o := HW.out.ord; omega))
      have HR2 := Lib.hid (HW.out.rng2 hc1 hc2)
      clear hb1 hc1 hs1 hb2 hc2 hs2
      refine' wpAnyH_one 5 (by kernel_rfl) ?_ ?_; rotate_left; (simp only [List.getElem?_toArray, List.getElem?_cons_zero, List.getElem?_cons_succ]; rfl)
      go_wp2_with fail
      refine QK.normal ⟨HR2.out, ?_⟩
      refine wpAnyH_done (by kernel_rfl) ?_ _
      refine NoPanic.normal ?_
      go_wp2_with fail
      refine bodyPost_ret (results_cct Try.results38 _ _ w2.heap.size w3.heap.size _ _ _ _ rfl rfl HOU.out.1 HOU.out.2.1 _ _ Try.underlying30 rfl HID.out Try.underlying39 rfl HIB.out _ rfl) rfl ?_
      exact ⟨_, st, fm, rfl, HSE.out.st, HRY.out, by omega, HSE.out.src, HOU.out.2.2⟩
    · have hn1 : a.n < -1 := by omega
      have HU := Lib.hid (show upF a.n = (-1) from if_neg (by omega))
      go_wp2_with ((with_reducible refine wpList_store1 w7 rfl 3 (.tmp 60) (.tmp 59) rfl w.heap.size 4 30 (rC x fm (.slice ao st.length c)) H7.out.box rfl (.int .i64 (-1)) rfl (rC_lt (by omega)) Try.infoI1 (int_one _ _) (int_cells _ _) ?_); intro w8 hb hc hs; have H8 := Lib.hid (H7.out.setBox (HYB.out w8 (by rw [HU.out]; exact hb)) hc); have HS8 := Lib.hid (HS7.out.set hc (Nat.le_refl _) (by have o := H7.out.ord; omega)); clear hb hc hs)
      have HW := Lib.hid (H8.out.below (Below.refl _ w8).drew)
      have HSW := Lib.hid (HS8.out.below (Below.refl _ w8).drew)
      refine wp_region_takes (fun w' => w'.rangeAt w.heap.size 0 (rC y fm (.slice ao st.length c)) ∧ w'.rangeAt w4.heap.size 0 (ofK .u8 zer)) [0, 1, 2] 3 (by kernel_rfl) rfl (by kernel_rfl) (by kernel_rfl) HW.out.rngs ?_
      generalize w8.drew = v0 at HW HSW ⊢
      refine' HeldL.run ?_ ?_ ?_ ?_; rotate_left 2; (simp only [List.getElem?_toArray, List.getElem?_cons_zero, List.getElem?_cons_succ]; rfl); rfl; (rintro w' ⟨k0, k1⟩; exact exec_load_mid rfl rfl k0 Try.underlying30 rfl HID.out); simp only [Act.put, List.setIfInBounds_toArray, List.set_cons_zero, List.set_cons_succ]
      refine' HeldL.run ?_ ?_ ?_ ?_; rotate_left 2; (simp only [List.getElem?_toArray, List.getElem?_cons_zero, List.getElem?_cons_succ]; rfl); rfl; (rintro w' ⟨k0, k1⟩; exact exec_load_mid rfl rfl k1 Try.underlying39 rfl HIB.out); simp only [Act.put, List.setIfInBounds_toArray, List.set_cons_zero, List.set_cons_succ]
      refine' HeldL.run ?_ ?_ ?_ ?_; rotate_left 2; (simp only [List.getElem?_toArray, List.getElem?_cons_zero, List.getElem?_cons_succ]; rfl); rfl; (rintro w' ⟨k0, k1⟩; go_simp; with_reducible rfl); simp only [Act.put, List.setIfInBounds_toArray, List.set_cons_zero, List.set_cons_succ]
      refine' wpAnyH_one 3 (by kernel_rfl) ?_ ?_; rotate_left; (simp only [List.getElem?_toArray, List.getElem?_cons_zero, List.getElem?_cons_succ]; rfl)
      refine wpList_store_blk v0 rfl 30 (.tmp 4) (.tmp 71) rfl w2.heap.size 30 rZ (rC y fm (.slice ao st.length c)) HW.out.rd rfl rfl HLD.out HID.out HOD.out ?_
      intro v1 hb1 hc1 hs1
      simp only [Act.put, List.setIfInBounds_toArray, List.set_cons_zero, List.set_cons_succ]
      refine QK.normal ⟨HW.out.rng1 hc1, ?_⟩
      refine' wpAnyH_one 4 (by kernel_rfl) ?_ ?_; rotate_left; (simp only [List.getElem?_toArray, List.getElem?_cons_zero, List.getElem?_cons_succ]; rfl)
      refine wpList_store_blk v1 rfl 39 (.tmp 5) (.tmp 72) rfl w3.heap.size 39 (ofK .u8 zer) (ofK .u8 zer) (HW.out.rb.keep hc1 (fun e => by have o := HW.out.ord; have e : w3.heap.size = w2.heap.size := e; omega)) rfl rfl rfl HIB.out (one_ofK _ _) ?_
      intro v2 hb2 hc2 hs2
      simp only [Act.put, List.setIfInBounds_toArray, List.set_cons_zero, List.set_cons_succ]
      refine QK.normal ⟨HW.out.rng2 hc1 hc2, ?_⟩
      have HOU := Lib.hid (HW.out.outs hb1 hc1 hb2 hc2)
      have HSE := Lib.hid ((HSW.out.set hc1 (by have o := HW.out.ord; omega) (by have o := HW.out.ord; omega)).set hc2 (by have o := HW.out.ord; omega) (by have o := HW.out.ord; omega))
      have HR2 := Lib.hid (HW.out.rng2 hc1 hc2)
      clear hb1 hc1 hs1 hb2 hc2 hs2
      refine' wpAnyH_one 5 (by kernel_rfl) ?_ ?_; rotate_left; (simp only [List.getElem?_toArray, List.getElem?_cons_zero, List.getElem?_cons_succ]; rfl)
      go_wp2_with fail
      refine QK.normal ⟨HR2.out, ?_⟩
      refine wpAnyH_done (by kernel_rfl) ?_ _
      refine NoPanic.normal ?_
      go_wp2_with fail
      refine bodyPost_ret (results_cct Try.results38 _ _ w2.heap.size w3.heap.size _ _ _ _ rfl rfl HOU.out.1 HOU.out.2.1 _ _ Try.underlying30 rfl HID.out Try.underlying39 rfl HIB.out _ rfl) rfl ?_
      exact ⟨_, st, fm, rfl, HSE.out.st, HRY.out, by omega, HSE.out.src, HOU.out.2.2⟩

set_option maxRecDepth 100000 in
set_option maxHeartbeats 8000000 in
theorem ought_4 (x : Dk) (fm n : Nat) (sv : Value) (st : List Wr) (a : ActD) (ka : Option Addr) (kl kc : Nat) (w : World) (y : Dk) (b : List Int) (m : Int) (hs : StAt w sv st) (hk : ∀ k, sv.ownBlock = some k → k < w.heap.size) (hr : RefOf x st fm) (hx : x.Ok n) (hn : n ≤ 1073741824) (hl : st.length + 1 ≤ 1073741824) (ha : ActOk w a (.slice ka kl kc)) (hq : kindF a.kind = 4) (hy : actF x a = y) (hb : actB x a = b) (hm : actE x a = m) :
    Calls Try.prog 38 #[.agg (rC x fm sv).toArray, .agg (actC a (.slice ka kl kc)).toArray] w (OughtP w sv (st.length + 1) y b m) := by
  obtain ⟨ao, c, rfl, -⟩ := id hs
  have e1 : actF x a = failF x a.n := by simp [actF, hq]
  have e2 : actB x a = zer := by simp [actB, hq]
  have e3 : actE x a = powE x := by simp [actE, hq]
  rw [e1] at hy
  rw [e2] at hb
  rw [e3] at hm
  subst hb
  clear e1 e2 e3
  by_cases ho : x.out = true
  · obtain rfl : y = x := by rw [← hy]; exact if_pos ho
    obtain rfl : m = 9 := by rw [← hm]; exact if_pos ho
    clear hy hm
    have HIX := Lib.hid (infoR y fm (.slice ao st.length c))
    have HIZ := Lib.hid (infoB isB_zer)
    have HIA := Lib.hid (infoA a (.slice ka kl kc))
    have HS0 := Lib.hid (And.intro hs hk)
    have HR := Lib.hid (And.intro hr (And.intro hx (And.intro hn (And.intro hl ha))))
    clear hs hr hx hn hl ha hk
    go_enter Try.func38, Try.ntmps38
    go_wp2_with (first
      | (with_reducible refine wpList_box_blk w rfl 30 (.tmp 0) rfl (rC y fm (.slice ao st.length c)) rfl ?_; intro w1 hb1 hbel1 hsz1; have HB1 := Lib.hid (And.intro hb1 (And.intro hbel1 hsz1)); clear hb1 hbel1 hsz1)
      | (with_reducible refine wpList_box_blk w1 rfl 49 (.tmp 1) rfl (actC a (.slice ka kl kc)) rfl ?_; intro w2 hb hbel hsz; have HB2 := Lib.hid (And.intro hb (And.intro (HB1.out.1.below hbel HB1.out.1.lt) (And.intro (below_thn HB1.out.2.1 hbel (Nat.le_refl _)) (show w.heap.size < w1.heap.size ∧ w1.heap.size < w2.heap.size by have := HB1.out.2.2; omega)))); clear hb hbel hsz)
      | ((with_reducible refine wpList_alloc_blk w2 rfl 30 rfl rZ Try.zeroRd ?_); intro w3 hb hbel hsz; have HB3 := Lib.hid (And.intro hb (And.intro (HB2.out.1.below hbel HB2.out.1.lt) (And.intro (HB2.out.2.1.below hbel HB2.out.2.1.lt) (And.intro (below_thn HB2.out.2.2.1 hbel (Nat.le_refl _)) (show w.heap.size < w1.heap.size ∧ w1.heap.size < w2.heap.size ∧ w2.heap.size < w3.heap.size by have := HB2.out.2.2.2; omega))))); clear hb hbel hsz)
      | ((with_reducible refine wpList_alloc_blk w3 rfl 39 rfl (ofK .u8 zer) Try.zeroBl ?_); intro w4 hb hbel hsz; have HB4 := Lib.hid (And.intro hb (And.intro (HB3.out.1.below hbel HB3.out.1.lt) (And.intro (HB3.out.2.1.below hbel HB3.out.2.1.lt) (And.intro (HB3.out.2.2.1.below hbel HB3.out.2.2.1.lt) (And.intro (below_thn HB3.out.2.2.2.1 hbel (Nat.le_refl _)) (show w.heap.size < w1.heap.size ∧ w1.heap.size < w2.heap.size ∧ w2.heap.size < w3.heap.size ∧ w3.heap.size < w4.heap.size by have := HB3.out.2.2.2.2; omega)))))); clear hb hbel hsz)
      | ((with_reducible refine wpList_alloc_blk w4 rfl 39 rfl (ofK .u8 zer) Try.zeroBl ?_); intro w5 hb hbel hsz; have H5 := Lib.hid (show OuI w w.heap.size w1.heap.size w2.heap.size w3.heap.size w4.heap.size (rC y fm (.slice ao st.length c)) zer (actC a (.slice ka kl kc)) w5 from ⟨HB4.out.2.2.2.1.below hbel HB4.out.2.2.2.1.lt, HB4.out.2.2.1.below hbel HB4.out.2.2.1.lt, HB4.out.2.1.below hbel HB4.out.2.1.lt, HB4.out.1.below hbel HB4.out.1.lt, hb, below_thn HB4.out.2.2.2.2.1 hbel (Nat.le_refl _), rfl, HB4.out.2.2.2.2.2⟩); have HRA := Lib.hid (rangeW_blk H5.out.act); clear hb hbel hsz)
      | (with_reducible refine wpList_load_any rfl 49 (.tmp 3) rfl w1.heap.size 0 rfl (actC a (.slice ka kl kc)) _ HRA.out Try.underlying49 rfl HIA.out ?_))
    refine (kind_go a.kind a.at_ a.n a.fill 4 _ _ hq).mono ?_
    rintro e w6 ⟨rfl, hb6⟩
    have H6 := Lib.hid (H5.out.below hb6)
    have HS6 := Lib.hid (StO.start (B4 := w4.heap.size) HS0.out.1 HS0.out.2 H6.out.bel)
    have HRX := Lib.hid H6.out.rngs.1
    have HRB := Lib.hid H6.out.rngs.2
    clear hb6 HB1 HB2 HB3 HB4 H5 HRA
    have c3 := H6.out.box.cell 3
    simp only [rC, List.getElem?_cons_succ, List.getElem?_cons_zero, ho] at c3
    have HID := Lib.hid (infoR y fm (.slice ao st.length c))
    have HLD := Lib.hid (lenR y fm (.slice ao st.length c))
    have HOD := Lib.hid (oneR y fm ao st.length c)
    have HIB := Lib.hid (infoB isB_zer)

    go_wp2_with fail
    have HW := Lib.hid (H6.out.below (Below.refl _ w6).drew)
    have HSW := Lib.hid (HS6.out.below (Below.refl _ w6).drew)
    refine wp_region_takes (fun w' => w'.rangeAt w.heap.size 0 (rC y fm (.slice ao st.length c)) ∧ w'.rangeAt w4.heap.size 0 (ofK .u8 zer)) [0, 1] 3 (by kernel_rfl) rfl (by kernel_rfl) (by kernel_rfl) HW.out.rngs ?_
    generalize w6.drew = v0 at HW HSW ⊢
    refine' HeldL.run ?_ ?_ ?_ ?_; rotate_left 2; (simp only [List.getElem?_toArray, List.getElem?_cons_zero, List.getElem?_cons_succ]; rfl); rfl; (rintro w' ⟨k0, k1⟩; exact exec_load_mid rfl rfl k0 Try.underlying30 rfl HID.out); simp only [Act.put, List.setIfInBounds_toArray, List.set_cons_zero, List.set_cons_succ]
    refine' HeldL.run ?_ ?_ ?_ ?_; rotate_left 2; (simp only [List.getElem?_toArray, List.getElem?_cons_zero, List.getElem?_cons_succ]; rfl); rfl; (rintro w' ⟨k0, k1⟩; exact exec_load_mid rfl rfl k1 Try.underlying39 rfl HIB.out); simp only [Act.put, List.setIfInBounds_toArray, List.set_cons_zero, List.set_cons_succ]
    refine' wpAnyH_one 2 (by kernel_rfl) ?_ ?_; rotate_left; (simp only [List.getElem?_toArray, List.getElem?_cons_zero, List.getElem?_cons_succ]; rfl)
    refine wpList_store_blk v0 rfl 30 (.tmp 4) (.tmp 52) rfl w2.heap.size 30 rZ (rC y fm (.slice ao st.length c)) HW.out.rd rfl rfl HLD.out HID.out HOD.out ?_
    intro v1 hb1 hc1 hs1
    simp only [Act.put, List.setIfInBounds_toArray, List.set_cons_zero, List.set_cons_succ]
    refine QK.normal ⟨HW.out.rng1 hc1, ?_⟩
    refine' wpAnyH_one 3 (by kernel_rfl) ?_ ?_; rotate_left; (simp only [List.getElem?_toArray, List.getElem?_cons_zero, List.getElem?_cons_succ]; rfl)
    refine wpList_store_blk v1 rfl 39 (.tmp 5) (.tmp 53) rfl w3.heap.size 39 (ofK .u8 zer) (ofK .u8 zer) (HW.out.rb.keep hc1 (fun e => by have o := HW.out.ord; have e : w3.heap.size = w2.heap.size := e; omega)) rfl rfl rfl HIB.out (one_ofK _ _) ?_
    intro v2 hb2 hc2 hs2
    simp only [Act.put, List.setIfInBounds_toArray, List.set_cons_zero, List.set_cons_succ]
    refine QK.normal ⟨HW.out.rng2 hc1 hc2, ?_⟩
    have HOU := Lib.hid (HW.out.outs hb1 hc1 hb2 hc2)
    have HSE := Lib.hid ((HSW.out.set hc1 (by have o := HW.out.ord; omega) (by have o := HW.out.ord; omega)).set hc2 (by have o := HW.out.ord; omega) (by have o := HW.out.ord; omega))
    have HR2 := Lib.hid (HW.out.rng2 hc1 hc2)
    clear hb1 hc1 hs1 hb2 hc2 hs2
    refine' wpAnyH_one 4 (by kernel_rfl) ?_ ?_; rotate_left; (simp only [List.getElem?_toArray, List.getElem?_cons_zero, List.getElem?_cons_succ]; rfl)
    go_wp2_with fail
    refine QK.normal ⟨HR2.out, ?_⟩
    refine wpAnyH_done (by kernel_rfl) ?_ _
    refine NoPanic.normal ?_
    go_wp2_with fail
    refine bodyPost_ret (results_cct Try.results38 _ _ w2.heap.size w3.heap.size _ _ _ _ rfl rfl HOU.out.1 HOU.out.2.1 _ _ Try.underlying30 rfl HID.out Try.underlying39 rfl HIB.out _ rfl) rfl ?_
    exact ⟨_, st, fm, rfl, HSE.out.st, HR.out.1, by omega, HSE.out.src, HOU.out.2.2⟩
  · have ho : x.out = false := by simpa using ho
    have hy2 : { x with fails := upF a.n } = y := by rw [← hy]; exact (if_neg (by rw [ho]; simp)).symm
    obtain rfl : m = 0 := by rw [← hm]; exact if_neg (by rw [ho]; simp)
    have hN := ha.n1
    have hN2 := ha.n2
    have hr2 : RefOf y st fm := by rw [← hy2]; exact hr.same rfl rfl
    have HRY := Lib.hid hr2
    have HYB := Lib.hid (show ∀ (wz : World), Blk wz w.heap.size 30 ((rC x fm (.slice ao st.length c)).set 5 (.int .i64 (upF a.n))) → Blk wz w.heap.size 30 (rC y fm (.slice ao st.length c)) from fun wz h => by rw [← hy2]; exact h)
    clear hy hm hy2 hr2
    have HIX := Lib.hid (infoR x fm (.slice ao st.length c))
    have HIZ := Lib.hid (infoB isB_zer)
    have HIA := Lib.hid (infoA a (.slice ka kl kc))
    have HS0 := Lib.hid (And.intro hs hk)
    have HR := Lib.hid (And.intro hr (And.intro hx (And.intro hn (And.intro hl ha))))
    clear hs hr hx hn hl ha hk
    go_enter Try.func38, Try.ntmps38
    go_wp2_with (first
      | (with_reducible refine wpList_box_blk w rfl 30 (.tmp 0) rfl (rC x fm (.slice ao st.length c)) rfl ?_; intro w1 hb1 hbel1 hsz1; have HB1 := Lib.hid (And.intro hb1 (And.intro hbel1 hsz1)); clear hb1 hbel1 hsz1)
      | (with_reducible refine wpList_box_blk w1 rfl 49 (.tmp 1) rfl (actC a (.slice ka kl kc)) rfl ?_; intro w2 hb hbel hsz; have HB2 := Lib.hid (And.intro hb (And.intro (HB1.out.1.below hbel HB1.out.1.lt) (And.intro (below_thn HB1.out.2.1 hbel (Nat.le_refl _)) (show w.heap.size < w1.heap.size ∧ w1.heap.size < w2.heap.size by have := HB1.out.2.2; omega)))); clear hb hbel hsz)
      | ((with_reducible refine wpList_alloc_blk w2 rfl 30 rfl rZ Try.zeroRd ?_); intro w3 hb hbel hsz; have HB3 := Lib.hid (And.intro hb (And.intro (HB2.out.1.below hbel HB2.out.1.lt) (And.intro (HB2.out.2.1.below hbel HB2.out.2.1.lt) (And.intro (below_thn HB2.out.2.2.1 hbel (Nat.le_refl _)) (show w.heap.size < w1.heap.size ∧ w1.heap.size < w2.heap.size ∧ w2.heap.size < w3.heap.size by have := HB2.out.2.2.2; omega))))); clear hb hbel hsz)
      | ((with_reducible refine wpList_alloc_blk w3 rfl 39 rfl (ofK .u8 zer) Try.zeroBl ?_); intro w4 hb hbel hsz; have HB4 := Lib.hid (And.intro hb (And.intro (HB3.out.1.below hbel HB3.out.1.lt) (And.intro (HB3.out.2.1.below hbel HB3.out.2.1.lt) (And.intro (HB3.out.2.2.1.below hbel HB3.out.2.2.1.lt) (And.intro (below_thn HB3.out.2.2.2.1 hbel (Nat.le_refl _)) (show w.heap.size < w1.heap.size ∧ w1.heap.size < w2.heap.size ∧ w2.heap.size < w3.heap.size ∧ w3.heap.size < w4.heap.size by have := HB3.out.2.2.2.2; omega)))))); clear hb hbel hsz)
      | ((with_reducible refine wpList_alloc_blk w4 rfl 39 rfl (ofK .u8 zer) Try.zeroBl ?_); intro w5 hb hbel hsz; have H5 := Lib.hid (show OuI w w.heap.size w1.heap.size w2.heap.size w3.heap.size w4.heap.size (rC x fm (.slice ao st.length c)) zer (actC a (.slice ka kl kc)) w5 from ⟨HB4.out.2.2.2.1.below hbel HB4.out.2.2.2.1.lt, HB4.out.2.2.1.below hbel HB4.out.2.2.1.lt, HB4.out.2.1.below hbel HB4.out.2.1.lt, HB4.out.1.below hbel HB4.out.1.lt, hb, below_thn HB4.out.2.2.2.2.1 hbel (Nat.le_refl _), rfl, HB4.out.2.2.2.2.2⟩); have HRA := Lib.hid (rangeW_blk H5.out.act); clear hb hbel hsz)
      | (with_reducible refine wpList_load_any rfl 49 (.tmp 3) rfl w1.heap.size 0 rfl (actC a (.slice ka kl kc)) _ HRA.out Try.underlying49 rfl HIA.out ?_))
    refine (kind_go a.kind a.at_ a.n a.fill 4 _ _ hq).mono ?_
    rintro e w6 ⟨rfl, hb6⟩
    have H6 := Lib.hid (H5.out.below hb6)
    have HS6 := Lib.hid (StO.start (B4 := w4.heap.size) HS0.out.1 HS0.out.2 H6.out.bel)
    have HRX := Lib.hid H6.out.rngs.1
    have HRB := Lib.hid H6.out.rngs.2
    clear hb6 HB1 HB2 HB3 HB4 H5 HRA
    have c3 := H6.out.box.cell 3
    simp only [rC, List.getElem?_cons_succ, List.getElem?_cons_zero, ho] at c3
    have HRA := Lib.hid (rangeW_blk H6.out.act)
    have HID := Lib.hid (infoR y fm (.slice ao st.length c))
    have HLD := Lib.hid (lenR y fm (.slice ao st.length c))
    have HOD := Lib.hid (oneR y fm ao st.length c)
    have HIB := Lib.hid (infoB isB_zer)

    go_wp2_with (first
      | (with_reducible refine wpList_load_any rfl 49 (.tmp 3) rfl w1.heap.size 0 rfl (actC a (.slice ka kl kc)) _ HRA.out Try.underlying49 rfl HIA.out ?_))
    refine (kind_go a.kind a.at_ a.n a.fill 4 _ _ hq).mono ?_
    rintro e w7 ⟨rfl, hb7⟩
    have H7 := Lib.hid (H6.out.below hb7)
    have HS7 := Lib.hid (HS6.out.below hb7)
    clear hb7 c3 HRA
    have a2 := H7.out.act.cell 2
    simp only [actC, List.getElem?_cons_succ, List.getElem?_cons_zero] at a2
    by_cases hn0 : -1 ≤ a.n
    · have hn1 : ¬ a.n < -1 := by omega
      have HU := Lib.hid (show upF a.n = a.n from upF_same hn0)
      go_wp2_with ((with_reducible refine wpList_store1 w7 rfl 3 (.tmp 64) (.tmp 63) rfl w.heap.size 5 30 (rC x fm (.slice ao st.length c)) H7.out.box rfl (.int .i64 a.n) rfl (rC_lt (by omega)) Try.infoI1 (int_one _ _) (int_cells _ _) ?_); intro w8 hb hc hs; have H8 := Lib.hid (H7.out.setBox (HYB.out w8 (by rw [HU.out]; exact hb)) hc); have HS8 := Lib.hid (HS7.out.set hc (Nat.le_refl _) (by have o := H7.out.ord; omega)); clear hb hc hs)
      have HW := Lib.hid (H8.out.below (Below.refl _ w8).drew)
      have HSW := Lib.hid (HS8.out.below (Below.refl _ w8).drew)
      refine wp_region_takes (fun w' => w'.rangeAt w.heap.size 0 (rC y fm (.slice ao st.length c)) ∧ w'.rangeAt w4.heap.size 0 (ofK .u8 zer)) [0, 1, 2] 3 (by kernel_rfl) rfl (by kernel_rfl) (by kernel_rfl) HW.out.rngs ?_
      generalize w8.drew = v0 at HW HSW ⊢
      refine' HeldL.run ?_ ?_ ?_ ?_; rotate_left 2; (simp only [List.getElem?_toArray, List.getElem?_cons_zero, List.getElem?_cons_succ]; rfl); rfl; (rintro w' ⟨k0, k1⟩; exact exec_load_mid rfl rfl k0 Try.underlying30 rfl HID.out); simp only [Act.put, List.setIfInBounds_toArray, List.set_cons_zero, List.set_cons_succ]
      refine' HeldL.run ?_ ?_ ?_ ?_; rotate_left 2; (simp only [List.getElem?_toArray, List.getElem?_cons_zero, List.getElem?_cons_succ]; rfl); rfl; (rintro w' ⟨k0, k1⟩; exact exec_load_mid rfl rfl k1 Try.underlying39 rfl HIB.out); simp only [Act.put, List.setIfInBounds_toArray, List.set_cons_zero, List.set_cons_succ]
      refine' HeldL.run ?_ ?_ ?_ ?_; rotate_left 2; (simp only [List.getElem?_toArray, List.getElem?_cons_zero, List.getElem?_cons_succ]; rfl); rfl; (rintro w' ⟨k0, k1⟩; go_simp; with_reducible rfl); simp only [Act.put, List.setIfInBounds_toArray, List.set_cons_zero, List.set_cons_succ]
      refine' wpAnyH_one 3 (by kernel_rfl) ?_ ?_; rotate_left; (simp only [List.getElem?_toArray, List.getElem?_cons_zero, List.getElem?_cons_succ]; rfl)
      refine wpList_store_blk v0 rfl 30 (.tmp 4) (.tmp 71) rfl w2.heap.size 30 rZ (rC y fm (.slice ao st.length c)) HW.out.rd rfl rfl HLD.out HID.out HOD.out ?_
      intro v1 hb1 hc1 hs1
      simp only [Act.put, List.setIfInBounds_toArray, List.set_cons_zero, List.set_cons_succ]
      refine QK.normal ⟨HW.out.rng1 hc1, ?_⟩
      refine' wpAnyH_one 4 (by kernel_rfl) ?_ ?_; rotate_left; (simp only [List.getElem?_toArray, List.getElem?_cons_zero, List.getElem?_cons_succ]; rfl)
      refine wpList_store_blk v1 rfl 39 (.tmp 5) (.tmp 72) rfl w3.heap.size 39 (ofK .u8 zer) (ofK .u8 zer) (HW.out.rb.keep hc1 (fun e => by have o := HW.out.ord; have e : w3.heap.size = w2.heap.size := e; omega)) rfl rfl rfl HIB.out (one_ofK _ _) ?_
      intro v2 hb2 hc2 hs2
      simp only [Act.put, List.setIfInBounds_toArray, List.set_cons_zero, List.set_cons_succ]
      refine QK.normal ⟨HW.out.rng2 hc1 hc2, ?_⟩
      have HOU := Lib.hid (HW.out.outs hb1 hc1 hb2 hc2)
      have HSE := Lib.hid ((HSW.out.set hc1 (by have o := HW.out.ord; omega) (by have o := HW.out.ord; omega)).set hc2 (by have o := HW.out.ord; omega) (by have o := HW.out.ord; omega))
      have HR2 := Lib.hid (HW.out.rng2 hc1 hc2)
      clear hb1 hc1 hs1 hb2 hc2 hs2
      refine' wpAnyH_one 5 (by kernel_rfl) ?_ ?_; rotate_left; (simp only [List.getElem?_toArray, List.getElem?_cons_zero, List.getElem?_cons_succ]; rfl)
      go_wp2_with fail
      refine QK.normal ⟨HR2.out, ?_⟩
      refine wpAnyH_done (by kernel_rfl) ?_ _
      refine NoPanic.normal ?_
      go_wp2_with fail
      refine bodyPost_ret (results_cct Try.results38 _ _ w2.heap.size w3.heap.size _ _ _ _ rfl rfl HOU.out.1 HOU.out.2.1 _ _ Try.underlying30 rfl HID.out Try.underlying39 rfl HIB.out _ rfl) rfl ?_
      exact ⟨_, st, fm, rfl, HSE.out.st, HRY.out, by omega, HSE.out.src, HOU.out.2.2⟩
    · have hn1 : a.n < -1 := by omega
      have HU := Lib.hid (show upF a.n = (-1) from if_neg (by omega))
      go_wp2_with ((with_reducible refine wpList_store1 w7 rfl 3 (.tmp 64) (.tmp 63) rfl w.heap.size 5 30 (rC x fm (.slice ao st.length c)) H7.out.box rfl (.int .i64 (-1)) rfl (rC_lt (by omega)) Try.infoI1 (int_one _ _) (int_cells _ _) ?_); intro w8 hb hc hs; have H8 := Lib.hid (H7.out.setBox (HYB.out w8 (by rw [HU.out]; exact hb)) hc); have HS8 := Lib.hid (HS7.out.set hc (Nat.le_refl _) (by have o := H7.out.ord; omega)); clear hb hc hs)
      have HW := Lib.hid (H8.out.below (Below.refl _ w8).drew)
      have HSW := Lib.hid (HS8.out.below (Below.refl _ w8).drew)
      refine wp_region_takes (fun w' => w'.rangeAt w.heap.size 0 (rC y fm (.slice ao st.length c)) ∧ w'.rangeAt w4.heap.size 0 (ofK .u8 zer)) [0, 1, 2] 3 (by kernel_rfl) rfl (by kernel_rfl) (by kernel_rfl) HW.out.rngs ?_
      generalize w8.drew = v0 at HW HSW ⊢
      refine' HeldL.run ?_ ?_ ?_ ?_; rotate_left 2; (simp only [List.getElem?_toArray, List.getElem?_cons_zero, List.getElem?_cons_succ]; rfl); rfl; (rintro w' ⟨k0, k1⟩; exact exec_load_mid rfl rfl k0 Try.underlying30 rfl HID.out); simp only [Act.put, List.setIfInBounds_toArray, List.set_cons_zero, List.set_cons_succ]
      refine' HeldL.run ?_ ?_ ?_ ?_; rotate_left 2; (simp only [List.getElem?_toArray, List.getElem?_cons_zero, List.getElem?_cons_succ]; rfl); rfl; (rintro w' ⟨k0, k1⟩; exact exec_load_mid rfl rfl k1 Try.underlying39 rfl HIB.out); simp only [Act.put, List.setIfInBounds_toArray, List.set_cons_zero, List.set_cons_succ]
      refine' HeldL.run ?_ ?_ ?_ ?_; rotate_left 2; (simp only [List.getElem?_toArray, List.getElem?_cons_zero, List.getElem?_cons_succ]; rfl); rfl; (rintro w' ⟨k0, k1⟩; go_simp; with_reducible rfl); simp only [Act.put, List.setIfInBounds_toArray, List.set_cons_zero, List.set_cons_succ]
      refine' wpAnyH_one 3 (by kernel_rfl) ?_ ?_; rotate_left; (simp only [List.getElem?_toArray, List.getElem?_cons_zero, List.getElem?_cons_succ]; rfl)
      refine wpList_store_blk v0 rfl 30 (.tmp 4) (.tmp 71) rfl w2.heap.size 30 rZ (rC y fm (.slice ao st.length c)) HW.out.rd rfl rfl HLD.out HID.out HOD.out ?_
      intro v1 hb1 hc1 hs1
      simp only [Act.put, List.setIfInBounds_toArray, List.set_cons_zero, List.set_cons_succ]
      refine QK.normal ⟨HW.out.rng1 hc1, ?_⟩
      refine' wpAnyH_one 4 (by kernel_rfl) ?_ ?_; rotate_left; (simp only [List.getElem?_toArray, List.getElem?_cons_zero, List.getElem?_cons_succ]; rfl)
      refine wpList_store_blk v1 rfl 39 (.tmp 5) (.tmp 72) rfl w3.heap.size 39 (ofK .u8 zer) (ofK .u8 zer) (HW.out.rb.keep hc1 (fun e => by have o := HW.out.ord; have e : w3.heap.size = w2.heap.size := e; omega)) rfl rfl rfl HIB.out (one_ofK _ _) ?_
      intro v2 hb2 hc2 hs2
      simp only [Act.put, List.setIfInBounds_toArray, List.set_cons_zero, List.set_cons_succ]
      refine QK.normal ⟨HW.out.rng2 hc1 hc2, ?_⟩
      have HOU := Lib.hid (HW.out.outs hb1 hc1 hb2 hc2)
      have HSE := Lib.hid ((HSW.out.set hc1 (by have o := HW.out.ord; omega) (by have o := HW.out.ord; omega)).set hc2 (by have o := HW.out.ord; omega) (by have o := HW.out.ord; omega))
      have HR2 := Lib.hid (HW.out.rng2 hc1 hc2)
      clear hb1 hc1 hs1 hb2 hc2 hs2
      refine' wpAnyH_one 5 (by kernel_rfl) ?_ ?_; rotate_left; (simp only [List.getElem?_toArray, List.getElem?_cons_zero, List.getElem?_cons_succ]; rfl)
      go_wp2_with fail
      refine QK.normal ⟨HR2.out, ?_⟩
      refine wpAnyH_done (by kernel_rfl) ?_ _
      refine NoPanic.normal ?_
      go_wp2_with fail
      refine bodyPost_ret (results_cct Try.results38 _ _ w2.heap.size w3.heap.size _ _ _ _ rfl rfl HOU.out.1 HOU.out.2.1 _ _ Try.underlying30 rfl HID.out Try.underlying39 rfl HIB.out _ rfl) rfl ?_
      exact ⟨_, st, fm, rfl, HSE.out.st, HRY.out, by omega, HSE.out.src, HOU.out.2.2⟩

end Go.Proofs.Yticcjaccpcnjhaa
