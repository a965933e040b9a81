/-
  The law's stands, walked: the disk stands as the reference. Conditions: at most 2^30 lines and acts.
-/
import Derived.Test.YticcjaccpcnjhaaRdM
namespace Go.Proofs.Yticcjaccpcnjhaa
open Go Go.RowKit
set_option linter.unusedSimpArgs false

/-- how stands stands: the disk, the reference's box, the story -/
structure StN (w w0 : World) (p : Nat) (x : Dk) (o : Option (Nat × Dk)) (R : Nat → Prop) (fm : Nat) (sv : Value) (st : List Wr) (B0 : Nat) (wz : World) : Prop where
  duo : Duo w wz p x o R
  box : Blk wz B0 30 (rC x fm sv)
  st : StAt wz sv st
  bel : Below w0.heap.size w0 wz
theorem StN.below {w w0 wz w' : World} {p : Nat} {x : Dk} {o : Option (Nat × Dk)} {R : Nat → Prop} {fm : Nat} {sv : Value} {st : List Wr} {B0 : Nat} (h : StN w w0 p x o R fm sv st B0 wz) (hb : Below wz.heap.size wz w') : StN w w0 p x o R fm sv st B0 w' :=
  ⟨h.duo.below hb, h.box.below hb h.box.lt, h.st.below hb, below_thn h.bel hb (Nat.le_refl _)⟩
theorem StN.of {w w0 wz : World} {p : Nat} {x : Dk} {o : Option (Nat × Dk)} {R : Nat → Prop} {fm : Nat} {sv : Value} {st : List Wr} {B0 : Nat} (h : StN w w0 p x o R fm sv st B0 wz) :
    wz.cell? ⟨B0, 0, none⟩ = some (.int .i64 x.size) ∧ wz.cell? ⟨B0, 3, none⟩ = some (.bool x.out) ∧ wz.cell? ⟨B0, 6, none⟩ = some (.int .i64 x.ops) ∧ wz.rangeAt B0 0 (rC x fm sv) :=
  ⟨by rw [h.box.cell]; rfl, by rw [h.box.cell]; rfl, by rw [h.box.cell]; rfl, rangeW_blk h.box⟩

/-- Pending, with the world below alone -/
theorem pending_bel {w wr : World} {p : Nat} {x : Dk} {o : Option (Nat × Dk)} {R : Nat → Prop} (n L : Nat) (h : Duo w wr p x o R) (hx : x.Ok n) (hn : n ≤ 1073741824) (hL : x.loose.length = L) :
    Calls Try.prog 29 #[.pointer (some ⟨p, 0, none⟩)] wr (fun e w' => ∃ ao c, e = .returned (.slice ao L c) ∧ Sl w' (.slice ao L c) (ofK .i64 (wrAts x.loose)) ∧ Below wr.heap.size wr w') := by
  obtain ⟨S, T, g1, _⟩ := h
  refine (pending_any p S x n L wr g1 hx hn hL.symm).mono ?_
  rintro e w' ⟨v, rfl, hown, hb⟩
  obtain ⟨vo, vc, rfl⟩ := own_shape hown
  exact ⟨vo, vc, rfl, Sl.of_owns hown, hb⟩

set_option maxRecDepth 100000 in
set_option maxHeartbeats 8000000 in
theorem stands_any {w wr : World} {p : Nat} {x : Dk} {o : Option (Nat × Dk)} {R : Nat → Prop} (fm n : Nat) (sv : Value) (st : List Wr) (h : Duo w wr p x o R) (hs : StAt wr sv st) (hr : RefOf x st fm) (hx : x.Ok n) (hn : n ≤ 1073741824) (hl : st.length ≤ 1073741824) :
    Calls Try.prog 13 #[.pointer (some ⟨p, 0, none⟩), .agg (rC x fm sv).toArray] wr (fun e w' => e = .returned (.bool true) ∧ Below wr.heap.size wr w') := by
  obtain ⟨L, hL⟩ : ∃ L, x.loose.length = L := ⟨_, rfl⟩
  have HL := Lib.hid (show x.loose.length = L ∧ L = st.length - fm from ⟨hL, by rw [← hL, hr.loose, List.length_drop]⟩)
  have HLO := Lib.hid (show wrAts x.loose = wrAts (st.drop fm) from by rw [hr.loose])
  have HR := Lib.hid (And.intro hr (And.intro hx (And.intro hn hl)))
  have HI := Lib.hid (infoR x fm sv)
  have HD := Lib.hid (And.intro h hs)
  clear hs hr hx hn hl hL h
  go_enter Try.func13, Try.ntmps13
  go_wp2_with ((with_reducible refine wpList_box_blk wr rfl 30 (.tmp 1) rfl (rC x fm sv) rfl ?_); intro w1 hb1 hbel1 hsz1; have H1 := Lib.hid (show StN w wr p x o R fm sv st wr.heap.size w1 from ⟨HD.out.1.below hbel1, hb1, HD.out.2.below hbel1, hbel1⟩); clear hb1 hbel1 hsz1)
  have H2 := Lib.hid (H1.out.below (Below.refl _ w1).drew)
  refine wp_region_takes (fun w' => w'.cell? ⟨wr.heap.size, 0, none⟩ = some (.int .i64 x.size) ∧ w'.cell? ⟨wr.heap.size, 3, none⟩ = some (.bool x.out) ∧ w'.cell? ⟨wr.heap.size, 6, none⟩ = some (.int .i64 x.ops) ∧ w'.rangeAt wr.heap.size 0 (rC x fm sv)) [0, 2, 3] 24 (by kernel_rfl) rfl (by kernel_rfl) (by kernel_rfl) H2.out.of ?_
  generalize w1.drew = v2 at H2 ⊢
  clear H1
  iterate 3 (refine' HeldL.run ?_ ?_ ?_ ?_; rotate_left 2; (simp only [List.getElem?_toArray, List.getElem?_cons_zero, List.getElem?_cons_succ]; rfl); rfl; (rintro w' ⟨k0, k3, k6, kr⟩; go_simp; with_reducible rfl); simp only [Act.put, List.setIfInBounds_toArray, List.set_cons_zero, List.set_cons_succ])
  refine' wpAnyH_one 1 (by kernel_rfl) ?_ ?_; rotate_left; (simp only [List.getElem?_toArray, List.getElem?_cons_zero, List.getElem?_cons_succ]; rfl)
  try simp only [Act.put]
  go_wp2_with fail
  refine (len_duo _ H2.out.duo rfl).mono ?_
  rintro e w' ⟨rfl, rfl⟩
  try go_wp2_with fail
  refine QK.normal ⟨(StN.of H2.out), ?_⟩
  refine wpAnyH_takes (fuel := 18) (by kernel_rfl) noPanic_any (StN.of H2.out) [4, 5, 6, 8, 9] _ _ (by kernel_rfl) ?_
  try simp only [Act.put]
  iterate 5 (refine' HeldL.run ?_ ?_ ?_ ?_; rotate_left 2; (simp only [List.getElem?_toArray, List.getElem?_cons_zero, List.getElem?_cons_succ]; rfl); rfl; (rintro w' ⟨k0, k3, k6, kr⟩; go_simp; with_reducible rfl); simp only [Act.put, List.setIfInBounds_toArray, List.set_cons_zero, List.set_cons_succ])
  refine' wpAnyH_one 7 (by kernel_rfl) ?_ ?_; rotate_left; (simp only [List.getElem?_toArray, List.getElem?_cons_zero, List.getElem?_cons_succ]; rfl)
  try simp only [Act.put]
  go_wp2_with fail
  refine (dead_duo _ H2.out.duo rfl).mono ?_
  rintro e w' ⟨rfl, rfl⟩
  try go_wp2_with fail
  refine QK.normal ⟨(StN.of H2.out), ?_⟩
  refine wpAnyH_takes (fuel := 11) (by kernel_rfl) noPanic_any (StN.of H2.out) [10, 11, 12, 13, 15, 16] _ _ (by kernel_rfl) ?_
  try simp only [Act.put]
  iterate 6 (refine' HeldL.run ?_ ?_ ?_ ?_; rotate_left 2; (simp only [List.getElem?_toArray, List.getElem?_cons_zero, List.getElem?_cons_succ]; rfl); rfl; (rintro w' ⟨k0, k3, k6, kr⟩; go_simp; with_reducible rfl); simp only [Act.put, List.setIfInBounds_toArray, List.set_cons_zero, List.set_cons_succ])
  refine' wpAnyH_one 14 (by kernel_rfl) ?_ ?_; rotate_left; (simp only [List.getElem?_toArray, List.getElem?_cons_zero, List.getElem?_cons_succ]; rfl)
  try simp only [Act.put]
  go_wp2_with fail
  refine (ops_duo _ H2.out.duo rfl).mono ?_
  rintro e w' ⟨rfl, rfl⟩
  try go_wp2_with fail
  refine QK.normal ⟨(StN.of H2.out), ?_⟩
  refine wpAnyH_takes (fuel := 5) (by kernel_rfl) noPanic_any (StN.of H2.out) [17, 18, 19, 20, 22] _ _ (by kernel_rfl) ?_
  try simp only [Act.put]
  iterate 4 (refine' HeldL.run ?_ ?_ ?_ ?_; rotate_left 2; (simp only [List.getElem?_toArray, List.getElem?_cons_zero, List.getElem?_cons_succ]; rfl); rfl; (rintro w' ⟨k0, k3, k6, kr⟩; go_simp; with_reducible rfl); simp only [Act.put, List.setIfInBounds_toArray, List.set_cons_zero, List.set_cons_succ])
  refine' HeldL.run ?_ ?_ ?_ ?_; rotate_left 2; (simp only [List.getElem?_toArray, List.getElem?_cons_zero, List.getElem?_cons_succ]; rfl); rfl; (rintro w' ⟨k0, k3, k6, kr⟩; exact exec_load_mid rfl rfl kr Try.underlying30 rfl HI.out); simp only [Act.put, List.setIfInBounds_toArray, List.set_cons_zero, List.set_cons_succ]
  refine' wpAnyH_one 21 (by kernel_rfl) ?_ ?_; rotate_left; (simp only [List.getElem?_toArray, List.getElem?_cons_zero, List.getElem?_cons_succ]; rfl)
  try simp only [Act.put]
  go_wp2_with fail
  refine (pending_bel n L H2.out.duo HR.out.2.1 HR.out.2.2.1 HL.out.1).mono ?_
  rintro e w3 ⟨ao, c, rfl, hsl, hd⟩
  have H3 := Lib.hid (H2.out.below hd)
  have HP := Lib.hid hsl
  clear hd hsl
  try go_wp2_with fail
  refine QK.normal ⟨(StN.of H3.out), ?_⟩
  refine' wpAnyH_one 23 (by kernel_rfl) ?_ ?_; rotate_left; (simp only [List.getElem?_toArray, List.getElem?_cons_zero, List.getElem?_cons_succ]; rfl)
  try simp only [Act.put]
  go_wp2_with fail
  refine (rloose_any x fm L sv st _ H3.out.st HR.out.1.blk HR.out.2.2.2 HR.out.1.le HL.out.2).mono ?_
  rintro e w4 ⟨vl, rfl, hown, hbl⟩
  have H4 := Lib.hid (H3.out.below hbl)
  have HO := Lib.hid (Sl.of_owns hown)
  try go_wp2_with fail
  refine QK.normal ⟨(StN.of H4.out), ?_⟩
  have HP4 := Lib.hid (HP.out.below hbl (Nat.le_refl _))
  clear hown hbl
  refine' wpAnyH_one 24 (by kernel_rfl) ?_ ?_; rotate_left; (simp only [List.getElem?_toArray, List.getElem?_cons_zero, List.getElem?_cons_succ]; rfl)
  try simp only [Act.put]
  go_wp2_with fail
  refine (equalInts _ _ (wrAts x.loose) (wrAts (st.drop fm)) true _ HP4.out HO.out (decide_eq_true HLO.out)).mono ?_
  rintro e w9 ⟨rfl, hsm⟩
  have H9 := Lib.hid (H4.out.below (hsm.below _))
  clear hsm
  try go_wp2_with fail
  refine QK.normal ⟨(StN.of H9.out), ?_⟩
  refine wpAnyH_takes (fuel := 1) (by kernel_rfl) noPanic_any (StN.of H9.out) [25] _ _ (by kernel_rfl) ?_
  try simp only [Act.put]
  iterate 1 (refine' HeldL.run ?_ ?_ ?_ ?_; rotate_left 2; (simp only [List.getElem?_toArray, List.getElem?_cons_zero, List.getElem?_cons_succ]; rfl); rfl; (rintro w' ⟨k0, k3, k6, kr⟩; go_simp; with_reducible rfl); simp only [Act.put, List.setIfInBounds_toArray, List.set_cons_zero, List.set_cons_succ])
  refine' wpAnyH_one 26 (by kernel_rfl) ?_ ?_; rotate_left; (simp only [List.getElem?_toArray, List.getElem?_cons_zero, List.getElem?_cons_succ]; rfl)
  try simp only [Act.put]
  go_wp2_with fail
  refine QK.normal ⟨(StN.of H9.out), ?_⟩
  refine wpAnyH_done (by kernel_rfl) ?_ _
  refine NoPanic.normal ?_
  go_wp2_with fail
  go_ret
  exact ⟨rfl, H9.out.bel⟩

end Go.Proofs.Yticcjaccpcnjhaa
