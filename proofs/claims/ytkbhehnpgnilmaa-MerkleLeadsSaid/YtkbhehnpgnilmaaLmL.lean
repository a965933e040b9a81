/-
  Law 08: MerkleLeads, walked. Conditions: bytes.
-/
import Derived.Test.YtkbhehnpgnilmaaMkY
namespace Go.Proofs.Ytkbhehnpgnilmaa
open Go Go.RowKit
set_option linter.unusedSimpArgs false

theorem nb_arith (n : Nat) (h : n < 8) : (n ^^^ 1) ^^^ 1 = n ∧ (n ^^^ 1) / 2 = n / 2 ∧ (n ^^^ 1) / 4 = n / 4 := by
  rcases (show n = 0 ∨ n = 1 ∨ n = 2 ∨ n = 3 ∨ n = 4 ∨ n = 5 ∨ n = 6 ∨ n = 7 by omega) with rfl | rfl | rfl | rfl | rfl | rfl | rfl | rfl <;> decide
theorem path_nb (s : List Int) (n : Nat) (h : n < 8) : ∃ r0 p1 p2, pathM s n = [r0, p1, p2] ∧ pathM s (n ^^^ 1) = [leafK s n, p1, p2] := by
  obtain ⟨e0, e1, e2⟩ := nb_arith n h
  refine ⟨_, _, _, rfl, ?_⟩
  unfold pathM
  rw [e0, e1, e2, show (rowM s 0).getD n [] = leafK s n from rowL_getD _ _ _ h]
theorem SlD.at2 {w : World} {g o n c : Nat} {x y z : List Int} {l : List (List Int)} (h : SlD w (.slice (some ⟨g, o, none⟩) n c) (x :: y :: z :: l)) : w.rangeAt g (o + 64) (ofK .u8 z) := by
  obtain ⟨ao', c', e, h2, h3, h4⟩ := h
  simp only [Value.slice.injEq] at e
  obtain ⟨rfl, _, _⟩ := e
  obtain ⟨g', o', h5, h6⟩ := h4 (by simp)
  simp only [Option.some.injEq, Addr.mk.injEq, and_true] at h5
  obtain ⟨rfl, rfl⟩ := h5
  have h7 := h6 2 (by simp)
  rw [show o + 2 * 32 = o + 64 by omega] at h7
  exact h7

set_option maxRecDepth 100000 in
set_option maxHeartbeats 8000000 in
theorem merkleLeads_walk (s : List Int) (lf : Int) (w : World) (l0 : s.length = 32) (b0 : AllB s) (_ : -9223372036854775808 ≤ lf ∧ lf ≤ 9223372036854775807) :
    Calls Try.prog 21 #[.agg (ofK .u8 s).toArray, .int .i64 lf] w (TrueP w) := by
  have hs : IsD s := ⟨l0, b0⟩
  have HSD := Lib.hid hs
  have HSI := Lib.hid (infoD HSD.out)
  have HSL := Lib.hid (lenD HSD.out isD_zer)
  obtain ⟨X, hX⟩ : ∃ X : Int, lf % 18446744073709551616 = X := ⟨_, rfl⟩
  obtain ⟨n, hn⟩ : ∃ n : Nat, (X % 8).toNat = n := ⟨_, rfl⟩
  have hX0 : 0 ≤ X := by omega
  have hn8 : n < 8 := by omega
  have hw : IntKind.u64.wrap lf = X := by rw [IntKind.wrap_u64]; omega
  have hr1 : X.tmod 8 = (n : Int) := by rw [Int.tmod_eq_emod_of_nonneg hX0]; omega
  have hr2 : X % 8 = (n : Int) := by omega
  have hwn : IntKind.i64.wrap (n : Int) = (n : Int) := by rw [IntKind.wrap_i64]; omega
  have hx1 := xor1 n hn8
  have hm8 := xor1_lt n 8 hn8 (.inl rfl)
  obtain ⟨r0, p1, p2, hp, hq⟩ := path_nb s n hn8
  have hDp := isD_pathM hs hn8
  have hDq := isD_pathM hs hm8
  rw [hp] at hDp
  rw [hq] at hDq
  have hld := leads s n hn8
  rw [hp] at hld
  have hP := fun w => path_ok s n w hs hn8
  have hQ := fun w => path_ok s (n ^^^ 1) w hs hm8
  rw [hp] at hP
  rw [hq] at hQ
  obtain ⟨k, hk⟩ : ∃ k, leafK s n = k := ⟨_, rfl⟩
  obtain ⟨rt, hrt⟩ : ∃ rt, rootM s = rt := ⟨_, rfl⟩
  have hrtD : IsD rt := by rw [← hrt]; exact isD_rootM hs
  rw [hk] at hDq hld hQ
  rw [hrt] at hld
  have hkD := hDq k (by simp)
  have h1D := hDq p1 (by simp)
  have h2D := hDq p2 (by simp)
  obtain ⟨y, hy⟩ : ∃ y, leafS s n = y := ⟨_, rfl⟩
  have hyD : IsD y := by rw [← hy]; exact isD_leafS hs _
  have hky : keyOf y = k := by rw [← hk, ← hy]; rfl
  have HKD := Lib.hid hkD
  have HKI := Lib.hid (infoD HKD.out)
  have HKL := Lib.hid (lenD HKD.out isD_zer)
  have HAD := Lib.hid h1D
  have HAI := Lib.hid (infoD HAD.out)
  have HAL := Lib.hid (lenD HAD.out isD_zer)
  have HBD := Lib.hid h2D
  have HBI := Lib.hid (infoD HBD.out)
  have HBL := Lib.hid (lenD HBD.out isD_zer)
  have HRD := Lib.hid hrtD
  have HRI := Lib.hid (infoD HRD.out)
  have HRL := Lib.hid (lenD HRD.out isD_zer)
  have HYD := Lib.hid hyD
  have HYI := Lib.hid (infoD HYD.out)
  have HYL := Lib.hid (lenD HYD.out isD_zer)
  have HE := Lib.hid (And.intro hky (And.intro hy (And.intro hld (And.intro hrt (And.intro hDp hDq)))))
  have HPC := Lib.hid hP
  have HQC := Lib.hid hQ
  have HN8 := Lib.hid (And.intro hn8 hm8)
  have he := fun w => eq_ids w k k true hkD hkD (decide_eq_true rfl)
  have he1 := fun w => eq_ids w p1 p1 true h1D h1D (decide_eq_true rfl)
  have he2 := fun w => eq_ids w p2 p2 true h2D h2D (decide_eq_true rfl)
  have he3 := fun w => eq_ids w rt rt true hrtD hrtD (decide_eq_true rfl)
  clear l0 b0 hs hX hn hn8 hm8 hp hq hDp hDq hld hP hQ hk hrt hrtD hkD h1D h2D hy hyD hky
  go_enter Try.func21, Try.ntmps21
  go_wp2_with (with_reducible refine wpList_box_blk w rfl 23 (.tmp 0) rfl (ofK .u8 s) rfl ?_; intro w1 hb hbel hsz; have HB1 := Lib.hid (And.intro hb hbel); clear hb hbel hsz)
  refine (wakes8_any w1).mono ?_
  rintro e w3 ⟨rfl, hb3⟩
  have H3 := Lib.hid (show w3.rangeAt w.heap.size 0 (ofK .u8 s) ∧ Below w.heap.size w w3 from ⟨rangeW_below (rangeW_blk HB1.out.1) hb3, below_thn HB1.out.2 hb3 (Nat.le_refl _)⟩)
  clear hb3 HB1
  go_wp2_with (with_reducible refine wpList_load_any rfl 23 (.tmp 2) rfl w.heap.size 0 rfl (ofK .u8 s) _ H3.out.1 Try.underlying23 rfl HSI.out ?_)
  refine (seed_ok s n w3 HSD.out (by omega) (by have := HN8.out; omega)).mono ?_
  rw [HE.out.2.1]
  rintro e w4 ⟨rfl, hb4⟩
  have H4 := Lib.hid (show w4.rangeAt w.heap.size 0 (ofK .u8 s) ∧ Below w.heap.size w w4 from ⟨rangeW_below H3.out.1 hb4, below_thn H3.out.2 hb4 (Nat.le_refl _)⟩)
  clear hb4
  go_wp2_with (first
    | ((with_reducible refine wpList_alloc_blk w4 rfl 23 rfl (ofK .u8 zer32) Try.zeroId ?_); intro w5 hb hbel hsz; have HAH6 := Lib.hid (And.intro hb hbel); clear hb hbel hsz)
    | ((with_reducible refine wpList_store_blk w5 rfl 23 (.tmp 5) (.tmp 21) rfl w4.heap.size 23 (ofK .u8 zer32) (ofK .u8 y) HAH6.out.1 rfl rfl HYL.out HYI.out (one_ofK _ _) ?_); intro w6 hb hc hs; have HBH6 := Lib.hid (show w6.rangeAt w4.heap.size 0 (ofK .u8 y) ∧ Below w4.heap.size w4 w6 from ⟨rangeW_blk hb, below_ch HAH6.out.2 hc (Nat.le_refl _) (fun j hj => by have : j = w4.heap.size := hj; omega)⟩); have H6 := Lib.hid (show w6.rangeAt w.heap.size 0 (ofK .u8 s) ∧ w6.rangeAt w4.heap.size 0 (ofK .u8 y) ∧ Below w.heap.size w w6 from ⟨rangeW_below H4.out.1 HBH6.out.2, HBH6.out.1, below_thn H4.out.2 HBH6.out.2 (Nat.le_refl _)⟩); clear hb hc hs)
    | (with_reducible refine wpList_load_any rfl 23 (.tmp 2) rfl w.heap.size 0 rfl (ofK .u8 s) _ H6.out.1 Try.underlying23 rfl HSI.out ?_))
  refine (HPC.out w6).mono ?_
  rintro e w7 ⟨po, pc, rfl, hown, hb7⟩
  have hsp : SlD w7 (.slice po 3 pc) [r0, p1, p2] := SlD.of_owns hown rfl HE.out.2.2.2.2.1
  obtain ⟨a1, c1, e1, _, _, hcell1⟩ := id hsp
  obtain ⟨pg, pf, e1', _⟩ := hcell1 (by show 0 < 3; omega)
  simp only [Value.slice.injEq] at e1
  rw [← e1.1] at e1'
  subst e1'
  clear e1 hcell1
  have H7 := Lib.hid (show w7.rangeAt w.heap.size 0 (ofK .u8 s) ∧ w7.rangeAt w4.heap.size 0 (ofK .u8 y) ∧ SlD w7 (.slice (some ⟨pg, pf, none⟩) 3 pc) [r0, p1, p2] ∧ Below w.heap.size w w7 from ⟨rangeW_below H6.out.1 hb7, rangeW_below H6.out.2.1 hb7, hsp, below_thn H6.out.2.2 hb7 (Nat.le_refl _)⟩)
  clear hown hb7 hsp
  go_wp2_with (with_reducible refine wpList_load_any rfl 23 (.tmp 5) rfl w4.heap.size 0 rfl (ofK .u8 y) _ H7.out.2.1 Try.underlying23 rfl HYI.out ?_)
  refine (key_any y w7 HYD.out).mono ?_
  rw [HE.out.1]
  rintro e w8 ⟨rfl, hb8⟩
  have H8 := Lib.hid (show w8.rangeAt w.heap.size 0 (ofK .u8 s) ∧ w8.rangeAt w4.heap.size 0 (ofK .u8 y) ∧ SlD w8 (.slice (some ⟨pg, pf, none⟩) 3 pc) [r0, p1, p2] ∧ Below w.heap.size w w8 from ⟨rangeW_below H7.out.1 hb8, rangeW_below H7.out.2.1 hb8, H7.out.2.2.1.below hb8, below_thn H7.out.2.2.2 hb8 (Nat.le_refl _)⟩)
  clear hb8
  go_wp2_with fail
  refine (climb_ok k n (.slice (some ⟨pg, pf, none⟩) 3 pc) [r0, p1, p2] w8 HKD.out HN8.out.1 H8.out.2.2.1 rfl HE.out.2.2.2.2.1).mono ?_
  rw [HE.out.2.2.1]
  rintro e w9 ⟨rfl, hb9⟩
  have H9 := Lib.hid (show w9.rangeAt w.heap.size 0 (ofK .u8 s) ∧ w9.rangeAt w4.heap.size 0 (ofK .u8 y) ∧ SlD w9 (.slice (some ⟨pg, pf, none⟩) 3 pc) [r0, p1, p2] ∧ Below w.heap.size w w9 from ⟨rangeW_below H8.out.1 hb9, rangeW_below H8.out.2.1 hb9, H8.out.2.2.1.below hb9, below_thn H8.out.2.2.2 hb9 (Nat.le_refl _)⟩)
  clear hb9
  go_wp2_with (first
    | ((with_reducible refine wpList_alloc_blk w9 rfl 23 rfl (ofK .u8 zer32) Try.zeroId ?_); intro w10 hb hbel hsz; have HAH11 := Lib.hid (And.intro hb hbel); clear hb hbel hsz)
    | ((with_reducible refine wpList_store_blk w10 rfl 23 (.tmp 9) (.tmp 41) rfl w9.heap.size 23 (ofK .u8 zer32) (ofK .u8 rt) HAH11.out.1 rfl rfl HRL.out HRI.out (one_ofK _ _) ?_); intro w11 hb hc hs; have HBH11 := Lib.hid (show w11.rangeAt w9.heap.size 0 (ofK .u8 rt) ∧ Below w9.heap.size w9 w11 from ⟨rangeW_blk hb, below_ch HAH11.out.2 hc (Nat.le_refl _) (fun j hj => by have : j = w9.heap.size := hj; omega)⟩); have H11 := Lib.hid (show w11.rangeAt w.heap.size 0 (ofK .u8 s) ∧ w11.rangeAt w4.heap.size 0 (ofK .u8 y) ∧ SlD w11 (.slice (some ⟨pg, pf, none⟩) 3 pc) [r0, p1, p2] ∧ w11.rangeAt w9.heap.size 0 (ofK .u8 rt) ∧ Below w.heap.size w w11 from ⟨rangeW_below H9.out.1 HBH11.out.2, rangeW_below H9.out.2.1 HBH11.out.2, H9.out.2.2.1.below HBH11.out.2, HBH11.out.1, below_thn H9.out.2.2.2 HBH11.out.2 (Nat.le_refl _)⟩); clear hb hc hs))
  try simp only [Act.put, List.setIfInBounds_toArray, List.set_cons_zero, List.set_cons_succ]
  have C1 := Lib.hid (fun q => root_any s (grew w11 q) HSD.out)
  rw [HE.out.2.2.2.1] at C1
  refine wp_region_grew (by kernel_rfl) (by kernel_rfl) ?_
  repeat (first | go_big_quiet_skip | (go_big_quiet_want; (first | (refine quiet_load_mid 23 (.tmp 9) rfl w9.heap.size 0 rfl (ofK .u8 rt) _ (fun w' hw' => rangeAt_grew H11.out.2.2.2.1 w' hw') Try.underlying23 rfl HRI.out ?_; go_simp; go_big_quiet_on) | (refine quiet_load_mid 23 (.tmp 2) rfl w.heap.size 0 rfl (ofK .u8 s) _ (fun w' hw' => rangeAt_grew H11.out.1 w' hw') Try.underlying23 rfl HSI.out ?_; go_simp; go_big_quiet_on) | (go_big_quiet_op; (first | go_big_quiet_on | (apply Exists.intro; refine ⟨fun _ => ?_, ?_⟩; (focus (first | (go_at_call 79; with_reducible exact calls_grew (C1.out _)))); go_big_quiet_on))))))
  refine wpQuiet_nil ?_
  intro w12 hw12
  obtain ⟨q, rfl⟩ := hw12
  have H12 := Lib.hid (show (grew w11 q).rangeAt w.heap.size 0 (ofK .u8 s) ∧ (grew w11 q).rangeAt w4.heap.size 0 (ofK .u8 y) ∧ SlD (grew w11 q) (.slice (some ⟨pg, pf, none⟩) 3 pc) [r0, p1, p2] ∧ (grew w11 q).rangeAt w9.heap.size 0 (ofK .u8 rt) ∧ Below w.heap.size w (grew w11 q) from ⟨rangeW_below H11.out.1 (below_grew w11 q), rangeW_below H11.out.2.1 (below_grew w11 q), H11.out.2.2.1.below (below_grew w11 q), rangeW_below H11.out.2.2.2.1 (below_grew w11 q), below_thn H11.out.2.2.2.2 (below_grew w11 q) (Nat.le_refl _)⟩)
  clear C1
  generalize grew w11 q = w12 at H12 ⊢
  go_wp2_with (with_reducible refine wpList_load_any rfl 23 (.tmp 2) rfl w.heap.size 0 rfl (ofK .u8 s) _ H12.out.1 Try.underlying23 rfl HSI.out ?_)
  refine (HQC.out w12).mono ?_
  rintro e w13 ⟨qo, qc, rfl, hown, hb13⟩
  have hsq : SlD w13 (.slice qo 3 qc) [k, p1, p2] := SlD.of_owns hown rfl HE.out.2.2.2.2.2
  obtain ⟨a2, c2, e2, _, _, hcell2⟩ := id hsq
  obtain ⟨qg, qf, e2', _⟩ := hcell2 (by show 0 < 3; omega)
  simp only [Value.slice.injEq] at e2
  rw [← e2.1] at e2'
  subst e2'
  clear e2 hcell2
  have H13 := Lib.hid (show w13.rangeAt w.heap.size 0 (ofK .u8 s) ∧ w13.rangeAt w4.heap.size 0 (ofK .u8 y) ∧ SlD w13 (.slice (some ⟨pg, pf, none⟩) 3 pc) [r0, p1, p2] ∧ w13.rangeAt w9.heap.size 0 (ofK .u8 rt) ∧ SlD w13 (.slice (some ⟨qg, qf, none⟩) 3 qc) [k, p1, p2] ∧ Below w.heap.size w w13 from ⟨rangeW_below H12.out.1 hb13, rangeW_below H12.out.2.1 hb13, H12.out.2.2.1.below hb13, rangeW_below H12.out.2.2.2.1 hb13, hsq, below_thn H12.out.2.2.2.2 hb13 (Nat.le_refl _)⟩)
  clear hown hb13 hsq
  go_wp2_with fail
  try simp only [Act.put, List.setIfInBounds_toArray, List.set_cons_zero, List.set_cons_succ]
  have C2 := Lib.hid (fun q => key_any y (grew w13 q) HYD.out)
  rw [HE.out.1] at C2
  refine wp_region_grew (by kernel_rfl) (by kernel_rfl) ?_
  repeat (first | go_big_quiet_skip | (go_big_quiet_want; (first | (refine quiet_load_mid 23 (.tmp 72) rfl qg qf rfl (ofK .u8 k) _ (fun w' hw' => rangeAt_grew H13.out.2.2.2.2.1.at0 w' hw') Try.underlying23 rfl HKI.out ?_; go_simp; go_big_quiet_on) | (refine quiet_load_mid 23 (.tmp 5) rfl w4.heap.size 0 rfl (ofK .u8 y) _ (fun w' hw' => rangeAt_grew H13.out.2.1 w' hw') Try.underlying23 rfl HYI.out ?_; go_simp; go_big_quiet_on) | (refine quiet_load_mid 23 (.tmp 80) rfl qg (qf + 32) rfl (ofK .u8 p1) _ (fun w' hw' => rangeAt_grew H13.out.2.2.2.2.1.at1 w' hw') Try.underlying23 rfl HAI.out ?_; go_simp; go_big_quiet_on) | (refine quiet_load_mid 23 (.tmp 83) rfl pg (pf + 32) rfl (ofK .u8 p1) _ (fun w' hw' => rangeAt_grew H13.out.2.2.1.at1 w' hw') Try.underlying23 rfl HAI.out ?_; go_simp; go_big_quiet_on) | (refine quiet_load_mid 23 (.tmp 89) rfl qg (qf + 64) rfl (ofK .u8 p2) _ (fun w' hw' => rangeAt_grew H13.out.2.2.2.2.1.at2 w' hw') Try.underlying23 rfl HBI.out ?_; go_simp; go_big_quiet_on) | (refine quiet_load_mid 23 (.tmp 92) rfl pg (pf + 64) rfl (ofK .u8 p2) _ (fun w' hw' => rangeAt_grew H13.out.2.2.1.at2 w' hw') Try.underlying23 rfl HBI.out ?_; go_simp; go_big_quiet_on) | (go_big_quiet_op; (first | go_big_quiet_on | (apply Exists.intro; refine ⟨fun _ => ?_, ?_⟩; (focus (first | (go_at_call 61; with_reducible exact calls_grew (C2.out _)))); go_big_quiet_on))))))
  refine wpQuiet_nil ?_
  intro w14 hw14
  obtain ⟨q2, rfl⟩ := hw14
  go_wp2_with fail
  go_ret
  exact ⟨rfl, below_thn H13.out.2.2.2.2.2 (below_grew w13 q2) (Nat.le_refl _)⟩

end Go.Proofs.Ytkbhehnpgnilmaa
