/-
  Law 06: WotsSigns, walked. Conditions: bytes.
-/
import Derived.Test.YtkbhehnpgnilmaaLwZ
import Derived.Test.YtkbhehnpgnilmaaFrameW
namespace Go.Proofs.Ytkbhehnpgnilmaa
open Go Go.RowKit
set_option linter.unusedSimpArgs false

theorem SlD.set {w w' : World} {lg n c : Nat} {l : List (List Int)} {cells : List Value} {y : List Int} (h : SlD w (.slice (some ⟨lg, 0, none⟩) n c) l) (hb : Blk w lg 23 cells) (j : Nat) (hj : j < l.length) (hD : ∀ x ∈ l, IsD x) (hy : IsD y) (hb' : Blk w' lg 23 (setFrom cells (j * 32) (ofK .u8 y))) (hlen : n * 32 ≤ cells.length) : SlD w' (.slice (some ⟨lg, 0, none⟩) n c) (l.set j y) := by
  obtain ⟨ao, c', e, h2, h3, h4⟩ := h
  simp only [Value.slice.injEq] at e
  obtain ⟨rfl, rfl, rfl⟩ := e
  obtain ⟨g, o, h5, h6⟩ := h4 (by omega)
  simp only [Option.some.injEq, Addr.mk.injEq, and_true] at h5
  obtain ⟨rfl, rfl⟩ := h5
  refine ⟨some ⟨lg, 0, none⟩, c, by simp, by simpa using h2, h3, fun _ => ⟨lg, 0, rfl, fun k hk i v hv => ?_⟩⟩
  have hk' : k < l.length := by simpa using hk
  rw [hb'.cell, setFrom_get _ _ _ (by rw [length_ofK, hy.1]; omega)]
  have hi := (List.getElem?_eq_some_iff.1 hv).1
  by_cases hkj : k = j
  · subst hkj
    rw [List.getElem_set_self] at hv hi
    rw [length_ofK, hy.1] at hi
    rw [if_pos (by rw [length_ofK, hy.1]; omega), show 0 + k * 32 + i - k * 32 = i by omega]
    exact hv
  · rw [List.getElem_set_ne (Ne.symm hkj)] at hv hi
    rw [length_ofK, (hD _ (List.getElem_mem hk')).1] at hi
    rw [if_neg (by rw [length_ofK, hy.1]; omega)]
    have := h6 k hk' i v hv
    rwa [hb.cell] at this
theorem own_parts32 {w : World} {base n c : Nat} {ao : Option Addr} {xs : List Value} (h : w.ownsRow base 23 32 (.slice ao n c) n xs) (hn : 0 < n) : ∃ lg cells, ao = some ⟨lg, 0, none⟩ ∧ base ≤ lg ∧ Blk w lg 23 cells ∧ n * 32 ≤ cells.length := by
  obtain ⟨_, ⟨_, h3⟩ | ⟨g, cap, C, hv, h4, h5, h6, _, h8, _⟩⟩ := h
  · omega
  · simp only [Value.slice.injEq, true_and] at hv
    obtain ⟨rfl, rfl⟩ := hv
    exact ⟨g, C.toList, rfl, h4, by unfold Blk; simpa using h5, by rw [Array.length_toList, h8]; exact Nat.mul_le_mul_right 32 h6⟩
theorem set_D {l : List (List Int)} {y : List Int} {j : Nat} (hD : ∀ x ∈ l, IsD x) (hy : IsD y) : ∀ x ∈ l.set j y, IsD x := fun x hx => by
  rcases List.mem_or_eq_of_mem_set hx with h | rfl
  · exact hD x h
  · exact hy
def zerT : List Value := turnC ⟨0, zer32⟩
theorem Try.zeroT : ∀ w, (zeroValue 73).run Try.prog w = .ok (.agg zerT.toArray) w := fun w => by kernel_rfl
theorem Try.infoT : (Try.prog.info? 73).map (·.size) = some 33 := by kernel_rfl
theorem turnC_len {q : TurnD} (h : IsD q.y) : (turnC q).length = 33 := by unfold turnC; rw [List.length_cons, length_ofK, h.1]
theorem turnC_one (q : TurnD) : ∀ v ∈ turnC q, v.oneCell' = true := fun v hv => by
  unfold turnC at hv
  rcases List.mem_cons.1 hv with rfl | hv
  · rfl
  · exact one_ofK _ _ v hv
theorem turn_parts {w : World} {g : Nat} {q : TurnD} (h : w.rangeAt g 0 (turnC q)) : w.cell? ⟨g, 0, none⟩ = some (.int .i64 q.i) ∧ w.rangeAt g 1 (ofK .u8 q.y) :=
  ⟨by simpa using h 0 (.int .i64 q.i) rfl, fun j v hv => by
    have := h (j + 1) v (by unfold turnC; rw [List.getElem?_cons_succ]; exact hv)
    rwa [show 0 + (j + 1) = 1 + j by omega] at this⟩

set_option maxRecDepth 100000 in
set_option maxHeartbeats 16000000 in
theorem wotsSigns_walk (seed m : List Int) (v : Value) (r : List TurnD) (w : World) (l0 : seed.length = 32) (b0 : AllB seed) (l1 : m.length = 32) (b1 : AllB m) (hv : SlF w v 33 turnC r) (hr : NilC v ∧ ∀ q ∈ r, TurnOk q) :
    Calls Try.prog 13 #[.agg (ofK .u8 seed).toArray, .agg (ofK .u8 m).toArray, v] w (TrueP w) := by
  obtain ⟨ao, cp, rfl, hcp, hcp2, hcell⟩ := hv
  have HV := Lib.hid (And.intro hcell hr.2)
  obtain ⟨n, hnl⟩ : ∃ n, r.length = n := ⟨_, rfl⟩
  rw [hnl] at hcp ⊢
  have HN := Lib.hid hnl
  have hn63 : n ≤ 9223372036854775807 := by omega
  clear hr hcell hnl
  have HXD := Lib.hid (show IsD seed from ⟨l0, b0⟩)
  have HXI := Lib.hid (infoD HXD.out)
  have HXL := Lib.hid (lenD HXD.out isD_zer)
  have HMD := Lib.hid (show IsD m from ⟨l1, b1⟩)
  have HMI := Lib.hid (infoD HMD.out)
  have HML := Lib.hid (lenD HMD.out isD_zer)
  clear l0 b0 l1 b1
  obtain ⟨k, hk⟩ : ∃ k, keyOf seed = k := ⟨_, rfl⟩
  have hkD : IsD k := by rw [← hk]; exact isD_key HXD.out
  have HKD := Lib.hid hkD
  have HKI := Lib.hid (infoD HKD.out)
  have HKL := Lib.hid (lenD HKD.out isD_zer)
  have HKE := Lib.hid hk
  obtain ⟨S, hS⟩ : ∃ S, sigOf seed m = S := ⟨_, rfl⟩
  have HSL := Lib.hid (show S.length = 67 by rw [← hS]; exact sigOf_length _ _)
  have HSD := Lib.hid (show ∀ x ∈ S, IsD x by rw [← hS]; exact sigOf_D HXD.out _)
  have HSE := Lib.hid hS
  clear hk hS
  go_enter Try.func13, Try.ntmps13
  go_wp2_with (first
    | (with_reducible refine wpList_box_blk w rfl 23 (.tmp 0) rfl (ofK .u8 seed) rfl ?_; intro w1 hb hbel hsz; have HB1 := Lib.hid (And.intro hb (And.intro hbel hsz)); clear hb hbel hsz)
    | (with_reducible refine wpList_box_blk w1 rfl 23 (.tmp 1) rfl (ofK .u8 m) rfl ?_; intro w2 hb hbel hsz; have HB2 := Lib.hid (show Blk w2 w.heap.size 23 (ofK .u8 seed) ∧ Blk w2 w1.heap.size 23 (ofK .u8 m) ∧ Below w.heap.size w w2 from ⟨HB1.out.1.below hbel HB1.out.1.lt, hb, below_thn HB1.out.2.1 hbel (Nat.le_refl _)⟩); clear hb hbel hsz))
  refine (wakes6_any w2).mono ?_
  rintro e w3 ⟨rfl, hb3⟩
  have HS0 := Lib.hid (show w3.drew.rangeAt w.heap.size 0 (ofK .u8 seed) ∧ w3.drew.rangeAt w1.heap.size 0 (ofK .u8 m) from ⟨rangeW_below (rangeW_blk HB2.out.1) hb3.drew, rangeW_below (rangeW_blk HB2.out.2.1) hb3.drew⟩)
  have HB0 := Lib.hid (show Below w.heap.size w w3.drew from (below_thn HB2.out.2.2 hb3 (Nat.le_refl _)).drew)
  clear hb3 HB1 HB2
  go_wp2_with fail
  refine wp_region_takes (fun w' => w'.rangeAt w.heap.size 0 (ofK .u8 seed) ∧ w'.rangeAt w1.heap.size 0 (ofK .u8 m)) [0, 1, 3, 4] 4 (by kernel_rfl) rfl (by kernel_rfl) (by kernel_rfl) HS0.out ?_
  generalize w3.drew = v0 at HS0 HB0 ⊢
  refine' HeldL.run ?_ ?_ ?_ ?_; rotate_left 2; (simp only [List.getElem?_toArray, List.getElem?_cons_zero, List.getElem?_cons_succ]; rfl); rfl; (rintro w' ⟨k0, k1⟩; exact exec_load_mid rfl rfl k0 Try.underlying23 rfl HXI.out); simp only [Act.put, List.setIfInBounds_toArray, List.set_cons_zero, List.set_cons_succ]
  refine' HeldL.run ?_ ?_ ?_ ?_; rotate_left 2; (simp only [List.getElem?_toArray, List.getElem?_cons_zero, List.getElem?_cons_succ]; rfl); rfl; (rintro w' ⟨k0, k1⟩; exact exec_load_mid rfl rfl k1 Try.underlying23 rfl HMI.out); simp only [Act.put, List.setIfInBounds_toArray, List.set_cons_zero, List.set_cons_succ]
  refine' HeldL.run ?_ ?_ ?_ ?_; rotate_left 2; (simp only [List.getElem?_toArray, List.getElem?_cons_zero, List.getElem?_cons_succ]; rfl); rfl; (rintro w' ⟨k0, k1⟩; exact exec_load_mid rfl rfl k0 Try.underlying23 rfl HXI.out); simp only [Act.put, List.setIfInBounds_toArray, List.set_cons_zero, List.set_cons_succ]
  refine' HeldL.run ?_ ?_ ?_ ?_; rotate_left 2; (simp only [List.getElem?_toArray, List.getElem?_cons_zero, List.getElem?_cons_succ]; rfl); rfl; (rintro w' ⟨k0, k1⟩; exact exec_load_mid rfl rfl k1 Try.underlying23 rfl HMI.out); simp only [Act.put, List.setIfInBounds_toArray, List.set_cons_zero, List.set_cons_succ]
  refine' wpAnyH_one 2 (by kernel_rfl) ?_ ?_; rotate_left; (simp only [List.getElem?_toArray, List.getElem?_cons_zero, List.getElem?_cons_succ]; rfl)
  try simp only [Act.put]
  go_wp2_with fail
  refine (sign_any seed m v0 HXD.out HMD.out).mono ?_
  rw [HSE.out]
  rintro e v1 ⟨so, sc, rfl, hown, hb⟩
  have HQ1 := Lib.hid (show v1.rangeAt w.heap.size 0 (ofK .u8 seed) ∧ v1.rangeAt w1.heap.size 0 (ofK .u8 m) from ⟨rangeW_below HS0.out.1 hb, rangeW_below HS0.out.2 hb⟩)
  have HR1 := Lib.hid (show SlD v1 (.slice so 67 sc) S ∧ Below w.heap.size w v1 from ⟨SlD.of_owns hown HSL.out.symm HSD.out, below_thn HB0.out hb (Nat.le_refl _)⟩)
  clear hown hb
  try go_wp2_with fail
  refine QK.normal ⟨HQ1.out, ?_⟩
  refine' wpAnyH_one 5 (by kernel_rfl) ?_ ?_; rotate_left; (simp only [List.getElem?_toArray, List.getElem?_cons_zero, List.getElem?_cons_succ]; rfl)
  try simp only [Act.put]
  go_wp2_with fail
  refine (lsigned_any seed m v1 HXD.out HMD.out).mono ?_
  rw [HSE.out]
  rintro e v2 ⟨wo, wc, rfl, hown, hb⟩
  have HQ2 := Lib.hid (show v2.rangeAt w.heap.size 0 (ofK .u8 seed) ∧ v2.rangeAt w1.heap.size 0 (ofK .u8 m) from ⟨rangeW_below HQ1.out.1 hb, rangeW_below HQ1.out.2 hb⟩)
  have H2 := Lib.hid (show v2.rangeAt w.heap.size 0 (ofK .u8 seed) ∧ v2.rangeAt w1.heap.size 0 (ofK .u8 m) ∧ SlD v2 (.slice so 67 sc) S ∧ SlD v2 (.slice wo 67 wc) S ∧ Below w.heap.size w v2 from ⟨HQ2.out.1, HQ2.out.2, HR1.out.1.below hb, SlD.of_owns hown HSL.out.symm HSD.out, below_thn HR1.out.2 hb (Nat.le_refl _)⟩)
  have HNW := Lib.hid (show NilC (.slice wo 67 wc) from fun c h => by simp only [Value.slice.injEq] at h; omega)
  clear hown hb
  try go_wp2_with fail
  refine QK.normal ⟨HQ2.out, ?_⟩
  refine wpAnyH_takes (fuel := 0) (by kernel_rfl) noPanic_any HQ2.out [6, 7] _ _ (by kernel_rfl) ?_
  try simp only [Act.put]
  iterate 2 (refine' HeldL.run ?_ ?_ ?_ ?_; rotate_left 2; (simp only [List.getElem?_toArray, List.getElem?_cons_zero, List.getElem?_cons_succ]; rfl); rfl; (rintro w' ⟨k0, k1⟩; go_simp; with_reducible rfl); simp only [Act.put, List.setIfInBounds_toArray, List.set_cons_zero, List.set_cons_succ])
  refine wpAnyH_done (by kernel_rfl) ?_ _
  refine NoPanic.normal ?_
  clear HQ1 HQ2 HR1 HS0 HB0
  go_wp2_with (first
    | (with_reducible refine wpList_load_any rfl 23 (.tmp 3) rfl w.heap.size 0 rfl (ofK .u8 seed) _ H2.out.1 Try.underlying23 rfl HXI.out ?_))
  refine (lkey_any seed v2 HXD.out).mono ?_
  rw [HKE.out]
  rintro e w4 ⟨rfl, hb4⟩
  have H4 := Lib.hid (show w4.rangeAt w.heap.size 0 (ofK .u8 seed) ∧ w4.rangeAt w1.heap.size 0 (ofK .u8 m) ∧ SlD w4 (.slice so 67 sc) S ∧ SlD w4 (.slice wo 67 wc) S ∧ Below w.heap.size w w4 from ⟨rangeW_below H2.out.1 hb4, rangeW_below H2.out.2.1 hb4, H2.out.2.2.1.below hb4, H2.out.2.2.2.1.below hb4, below_thn H2.out.2.2.2.2 hb4 (Nat.le_refl _)⟩)
  clear hb4
  go_wp2_with (first
    | ((with_reducible refine wpList_alloc_blk w4 rfl 23 rfl (ofK .u8 zer32) Try.zeroId ?_); intro w5 hb hbel hsz; have HAH6 := Lib.hid (And.intro hb hbel); clear hb hbel hsz)
    | ((with_reducible refine wpList_store_blk w5 rfl 23 (.tmp 9) (.tmp 26) rfl w4.heap.size 23 (ofK .u8 zer32) (ofK .u8 k) HAH6.out.1 rfl rfl HKL.out HKI.out (one_ofK _ _) ?_); intro w6 hb hc hs; have HBH6 := Lib.hid (show w6.rangeAt w4.heap.size 0 (ofK .u8 k) ∧ Below w4.heap.size w4 w6 from ⟨rangeW_blk hb, below_ch HAH6.out.2 hc (Nat.le_refl _) (fun j hj => by have : j = w4.heap.size := hj; omega)⟩); have H6 := Lib.hid (show w6.rangeAt w.heap.size 0 (ofK .u8 seed) ∧ w6.rangeAt w1.heap.size 0 (ofK .u8 m) ∧ SlD w6 (.slice so 67 sc) S ∧ SlD w6 (.slice wo 67 wc) S ∧ w6.rangeAt w4.heap.size 0 (ofK .u8 k) ∧ Below w.heap.size w w6 from ⟨rangeW_below H4.out.1 HBH6.out.2, rangeW_below H4.out.2.1 HBH6.out.2, H4.out.2.2.1.below HBH6.out.2, H4.out.2.2.2.1.below HBH6.out.2, HBH6.out.1, below_thn H4.out.2.2.2.2 HBH6.out.2 (Nat.le_refl _)⟩); clear hb hc hs))
  simp only [Act.put, List.setIfInBounds_toArray, List.set_cons_zero, List.set_cons_succ]
  have C1 := Lib.hid (fun q => same_any (.slice so 67 sc) (.slice wo 67 wc) S S (grew w6 q) (H6.out.2.2.1.below (below_grew w6 q)) (H6.out.2.2.2.1.below (below_grew w6 q)) HSD.out HSD.out)
  rw [decide_eq_true rfl] at C1
  have C2 := Lib.hid (fun q => key_any seed (grew w6 q) HXD.out)
  rw [HKE.out] at C2
  have he := fun w => eq_ids w k k true hkD hkD (decide_eq_true rfl)
  clear hkD
  refine wp_region_grew (by kernel_rfl) (by kernel_rfl) ?_
  repeat (first | go_big_quiet_skip | (go_big_quiet_want; (first | (refine quiet_load_mid 23 (.tmp 3) rfl w.heap.size 0 rfl (ofK .u8 seed) _ (fun w' hw' => rangeAt_grew H6.out.1 w' hw') Try.underlying23 rfl HXI.out ?_; go_simp; go_big_quiet_on) | (refine quiet_load_mid 23 (.tmp 9) rfl w4.heap.size 0 rfl (ofK .u8 k) _ (fun w' hw' => rangeAt_grew H6.out.2.2.2.2.1 w' hw') Try.underlying23 rfl HKI.out ?_; go_simp; go_big_quiet_on) | (go_big_quiet_op; (first | go_big_quiet_on | (apply Exists.intro; refine ⟨fun _ => ?_, ?_⟩; (focus (first | (go_at_call 60; exact calls_grew (C1.out _)) | (go_at_call 61; exact calls_grew (C2.out _)))); go_big_quiet_on))))))
  refine wpQuiet_nil ?_
  intro w7 hw7
  obtain ⟨q, rfl⟩ := hw7
  have H7 := Lib.hid (show (grew w6 q).rangeAt w.heap.size 0 (ofK .u8 seed) ∧ (grew w6 q).rangeAt w1.heap.size 0 (ofK .u8 m) ∧ SlD (grew w6 q) (.slice wo 67 wc) S ∧ (grew w6 q).rangeAt w4.heap.size 0 (ofK .u8 k) ∧ Below w.heap.size w (grew w6 q) from ⟨rangeW_below H6.out.1 (below_grew w6 q), rangeW_below H6.out.2.1 (below_grew w6 q), H6.out.2.2.2.1.below (below_grew w6 q), rangeW_below H6.out.2.2.2.2.1 (below_grew w6 q), below_thn H6.out.2.2.2.2.2 (below_grew w6 q) (Nat.le_refl _)⟩)
  clear C1 C2 he H2 H4 H6 HAH6 HBH6
  generalize grew w6 q = w7 at H7 ⊢
  have HB7 := Lib.hid H7.out.2.2.2.2
  have HR7 := Lib.hid (show w7.rangeAt w.heap.size 0 (ofK .u8 seed) ∧ w7.rangeAt w1.heap.size 0 (ofK .u8 m) ∧ SlD w7 (.slice wo 67 wc) S ∧ w7.rangeAt w4.heap.size 0 (ofK .u8 k) ∧ Below w7.heap.size w7 w7 from ⟨H7.out.1, H7.out.2.1, H7.out.2.2.1, H7.out.2.2.2.1, Below.refl _ _⟩)
  clear H7
  go_wp2_with fail
  go_loopw [39] (fun c wr => ∃ k' : Nat, k' ≤ 6 ∧ k' ≤ n ∧ c = .int .i64 k' ∧ Hid (Below w7.heap.size w7 wr)) (fun c _ => 6 - (intOf c).toNat)
  case atStart => exact ⟨0, by omega, by omega, rfl, Lib.hid (Below.refl _ _)⟩
  case round =>
    obtain ⟨i, hi, hin, rfl, HR⟩ := hrel
    have HW := Lib.hid (show wr.rangeAt w.heap.size 0 (ofK .u8 seed) ∧ wr.rangeAt w1.heap.size 0 (ofK .u8 m) ∧ SlD wr (.slice wo 67 wc) S ∧ wr.rangeAt w4.heap.size 0 (ofK .u8 k) ∧ Below w7.heap.size w7 wr from ⟨rangeW_below HR7.out.1 HR.out, rangeW_below HR7.out.2.1 HR.out, HR7.out.2.2.1.below HR.out, rangeW_below HR7.out.2.2.2.1 HR.out, below_thn HR7.out.2.2.2.2 HR.out (Nat.le_refl _)⟩)
    by_cases hlt : i < n
    · have hi32 : (i : Int) < n := by omega
      have hi0 : (0 : Int) ≤ (i : Int) := by omega
      have hia : i < r.length := by rw [HN.out]; exact hlt
      obtain ⟨ag, ago, rfl, hca⟩ := HV.out.1 (by omega)
      have HC := Lib.hid (rangeW_below (hca i hia) (below_thn HB7.out HW.out.2.2.2.2 (Nat.le_refl _)))
      have hq := HV.out.2 _ (List.getElem_mem hia)
      generalize r[i] = q at HC hq
      obtain ⟨at_, y⟩ := q
      have hyD : IsD y := hq.2
      have hat : -9223372036854775808 ≤ at_ ∧ at_ ≤ 9223372036854775807 := hq.1
      have HYD := Lib.hid hyD
      have HYI := Lib.hid (infoD HYD.out)
      have HYL := Lib.hid (lenD HYD.out isD_zer)
      have HQI := Lib.hid (show (Try.prog.info? 73).map (·.size) = some (turnC ⟨at_, y⟩).length by rw [turnC_len hyD]; exact Try.infoT)
      have HQL := Lib.hid (show (turnC ⟨at_, y⟩).length = zerT.length by rw [turnC_len hyD]; exact (turnC_len isD_zer).symm)
      have HQ1 := Lib.hid (turnC_one ⟨at_, y⟩)
      have HQP := Lib.hid (fun (w' : World) (g : Nat) (h : w'.rangeAt g 0 (turnC ⟨at_, y⟩)) => turn_parts h)
      clear hca hia hyD hq
      by_cases h6 : i = 6
      · subst h6
        go_wp2_with (first
    | (with_reducible refine wpList_load_any rfl 73 (.tmp 42) rfl ag (ago + 6 * 33) rfl (turnC ⟨at_, y⟩) _ HC.out Try.underlying73 rfl HQI.out ?_)
    | ((with_reducible refine wpList_alloc_blk wr rfl 73 rfl zerT Try.zeroT ?_); intro w8 hb hbel hsz; have HA := Lib.hid (And.intro hb hbel); clear hb hbel hsz)
    | ((with_reducible refine wpList_store_blk w8 rfl 73 (.tmp 11) (.tmp 43) rfl wr.heap.size 73 zerT (turnC ⟨at_, y⟩) HA.out.1 rfl rfl HQL.out HQI.out HQ1.out ?_); intro w9 hb hc hs; have hbw : Below wr.heap.size wr w9 := below_ch HA.out.2 hc (Nat.le_refl _) (fun j hj => by have : j = wr.heap.size := hj; omega); have H9 := Lib.hid (below_thn (below_thn HB7.out HW.out.2.2.2.2 (Nat.le_refl _)) hbw (Nat.le_refl _)); clear hb hc hs hbw))
        go_ret
        exact ⟨rfl, H9.out⟩
      · have hi6 : ((i : Int) == 6) = false := by simp; omega
        have hi5 : i < 6 := by omega
        clear h6
        go_wp2_with (first
    | (with_reducible refine wpList_load_any rfl 73 (.tmp 42) rfl ag (ago + i * 33) rfl (turnC ⟨at_, y⟩) _ HC.out Try.underlying73 rfl HQI.out ?_)
    | ((with_reducible refine wpList_alloc_blk wr rfl 73 rfl zerT Try.zeroT ?_); intro w8 hb hbel hsz; have HA := Lib.hid (And.intro hb hbel); clear hb hbel hsz)
    | ((with_reducible refine wpList_store_blk w8 rfl 73 (.tmp 11) (.tmp 43) rfl wr.heap.size 73 zerT (turnC ⟨at_, y⟩) HA.out.1 rfl rfl HQL.out HQI.out HQ1.out ?_); intro w9 hb hc hs; have hbw : Below wr.heap.size wr w9 := below_ch HA.out.2 hc (Nat.le_refl _) (fun j hj => by have : j = wr.heap.size := hj; omega); have hp9 := HQP.out w9 wr.heap.size (rangeW_blk hb); have H9 := Lib.hid (show w9.rangeAt w.heap.size 0 (ofK .u8 seed) ∧ w9.rangeAt w1.heap.size 0 (ofK .u8 m) ∧ SlD w9 (.slice wo 67 wc) S ∧ w9.rangeAt w4.heap.size 0 (ofK .u8 k) ∧ w9.cell? ⟨wr.heap.size, 0, none⟩ = some (.int .i64 at_) ∧ w9.rangeAt wr.heap.size 1 (ofK .u8 y) ∧ Below w7.heap.size w7 w9 from ⟨rangeW_below HW.out.1 hbw, rangeW_below HW.out.2.1 hbw, HW.out.2.2.1.below hbw, rangeW_below HW.out.2.2.2.1 hbw, hp9.1, hp9.2, below_thn HW.out.2.2.2.2 hbw (Nat.le_refl _)⟩); clear hp9; clear hb hc hs hbw)
    | ((with_reducible refine wpList_slice_ids0 w9 rfl rfl ?_); intro w10 hown hbel hsz; have HE10 := Lib.hid (And.intro hown hbel); have H10 := Lib.hid (show w10.rangeAt w.heap.size 0 (ofK .u8 seed) ∧ w10.rangeAt w1.heap.size 0 (ofK .u8 m) ∧ SlD w10 (.slice wo 67 wc) S ∧ w10.rangeAt w4.heap.size 0 (ofK .u8 k) ∧ w10.cell? ⟨wr.heap.size, 0, none⟩ = some (.int .i64 at_) ∧ w10.rangeAt wr.heap.size 1 (ofK .u8 y) ∧ Below w7.heap.size w7 w10 from ⟨rangeW_below H9.out.1 HE10.out.2, rangeW_below H9.out.2.1 HE10.out.2, H9.out.2.2.1.below HE10.out.2, rangeW_below H9.out.2.2.2.1 HE10.out.2, (HE10.out.2.cell (p := ⟨wr.heap.size, 0, none⟩) (block_of_cell H9.out.2.2.2.2.1)).trans H9.out.2.2.2.2.1, rangeW_below H9.out.2.2.2.2.2.1 HE10.out.2, below_thn H9.out.2.2.2.2.2.2 HE10.out.2 (Nat.le_refl _)⟩); clear hown hbel hsz)
    | (at_builtin; refine wpList_append_ids w10 rfl (.tmp 46) (.tmp 47) rfl w9.heap.size (.slice (some ⟨w9.heap.size, 0, none⟩) 0 0) 0 [] rfl HE10.out.1 (.slice wo 67 wc) S rfl H10.out.2.2.1 HNW.out HSD.out (by rw [HSL.out]; omega) HE10.out.2.size ?_))
        intro lo lc w11 hown hgr
        rw [HSL.out] at hown ⊢
        have hb11 : Below w9.heap.size w9 w11 := HE10.out.2.grown hgr HE10.out.2.size (fun j e => by cases e; exact Nat.le_refl _)
        obtain ⟨lg, cells, rfl, hlg, hcl, hlen⟩ := own_parts32 hown (by omega)
        obtain ⟨U, hU⟩ : ∃ U : Int, at_ % 18446744073709551616 = U := ⟨_, rfl⟩
        obtain ⟨J, hJ⟩ : ∃ J : Nat, (U % 67).toNat = J := ⟨_, rfl⟩
        have hU0 : 0 ≤ U := by omega
        have hU1 : U ≤ 18446744073709551615 := by omega
        have hJ67 : J < 67 := by omega
        have hw : IntKind.u64.wrap at_ = U := by rw [IntKind.wrap_u64]; omega
        have hr1 : U.tmod 67 = (J : Int) := by rw [Int.tmod_eq_emod_of_nonneg hU0]; omega
        have hr2 : U % 67 = (J : Int) := by omega
        have h67 : IntKind.u64.wrap 67 = 67 := by decide
        have hJ0 : (0 : Int) ≤ (J : Int) := by omega
        have hJ1 : (J : Int) < 67 := by omega
        have HU := Lib.hid (And.intro hU hJ)
        have H11 := Lib.hid (show w11.rangeAt w.heap.size 0 (ofK .u8 seed) ∧ w11.rangeAt w1.heap.size 0 (ofK .u8 m) ∧ SlD w11 (.slice wo 67 wc) S ∧ w11.rangeAt w4.heap.size 0 (ofK .u8 k) ∧ w11.cell? ⟨wr.heap.size, 0, none⟩ = some (.int .i64 at_) ∧ w11.rangeAt wr.heap.size 1 (ofK .u8 y) ∧ SlD w11 (.slice (some ⟨lg, 0, none⟩) 67 lc) S ∧ Blk w11 lg 23 (cells) ∧ (67 * 32 ≤ cells.length ∧ w9.heap.size ≤ lg) ∧ Below w7.heap.size w7 w11 from ⟨rangeW_below H9.out.1 hb11, rangeW_below H9.out.2.1 hb11, H9.out.2.2.1.below hb11, rangeW_below H9.out.2.2.2.1 hb11, (hb11.cell (p := ⟨wr.heap.size, 0, none⟩) (block_of_cell H9.out.2.2.2.2.1)).trans H9.out.2.2.2.2.1, rangeW_below H9.out.2.2.2.2.2.1 hb11, SlD.of_owns hown HSL.out.symm HSD.out, hcl, ⟨hlen, hlg⟩, below_thn H9.out.2.2.2.2.2.2 hb11 (Nat.le_refl _)⟩)
        have HS1 := Lib.hid (show w11.drew.cell? ⟨wr.heap.size, 0, none⟩ = some (.int .i64 at_) ∧ w11.drew.rangeAt wr.heap.size 1 (ofK .u8 y) from ⟨H11.out.2.2.2.2.1, rangeW_below H11.out.2.2.2.2.2.1 (Below.refl _ w11).drew⟩)
        have HB1 := Lib.hid (show Blk w11.drew lg 23 cells from H11.out.2.2.2.2.2.2.2.1.below (Below.refl _ w11).drew H11.out.2.2.2.2.2.2.2.1.lt)
        have HS11 := Lib.hid (show SlD w11.drew (.slice (some ⟨lg, 0, none⟩) 67 lc) S from H11.out.2.2.2.2.2.2.1.below (Below.refl _ w11).drew)
        have HL11 := Lib.hid (show Below w9.heap.size w9 w11.drew from hb11.drew)
        clear hown hgr hb11 hcl hlen hlg HE10 H10 HA HC hU hJ hat
        go_wp2_with fail
        refine wp_region_takes (fun w' => w'.cell? ⟨wr.heap.size, 0, none⟩ = some (.int .i64 at_) ∧ w'.rangeAt wr.heap.size 1 (ofK .u8 y)) [0, 1, 2, 3, 4, 5, 6, 7, 8, 9, 10] 1 (by kernel_rfl) rfl (by kernel_rfl) (by kernel_rfl) HS1.out ?_
        generalize w11.drew = v3 at HS1 HB1 HS11 HL11 ⊢
        iterate 9 (refine' HeldL.run ?_ ?_ ?_ ?_; rotate_left 2; (simp only [List.getElem?_toArray, List.getElem?_cons_zero, List.getElem?_cons_succ]; rfl); rfl; (rintro w' ⟨k0, k1⟩; go_simp; with_reducible rfl); simp only [Act.put, List.setIfInBounds_toArray, List.set_cons_zero, List.set_cons_succ])
        refine' HeldL.run ?_ ?_ ?_ ?_; rotate_left 2; (simp only [List.getElem?_toArray, List.getElem?_cons_zero, List.getElem?_cons_succ]; rfl); rfl; (rintro w' ⟨k0, k1⟩; exact exec_load_mid rfl rfl k1 Try.underlying23 rfl HYI.out); simp only [Act.put, List.setIfInBounds_toArray, List.set_cons_zero, List.set_cons_succ]
        refine' HeldL.run ?_ ?_ ?_ ?_; rotate_left 2; (simp only [List.getElem?_toArray, List.getElem?_cons_zero, List.getElem?_cons_succ]; rfl); rfl; (rintro w' ⟨k0, k1⟩; go_simp; with_reducible rfl); simp only [Act.put, List.setIfInBounds_toArray, List.set_cons_zero, List.set_cons_succ]
        refine' wpAnyH_one 11 (by kernel_rfl) ?_ ?_; rotate_left; (simp only [List.getElem?_toArray, List.getElem?_cons_zero, List.getElem?_cons_succ]; rfl)
        refine wpList_store_part v3 rfl 23 (.tmp 59) (.tmp 58) rfl lg (J * 32) 23 cells (ofK .u8 y) HB1.out ?_ rfl ?_ HYI.out (one_ofK _ _) ?_
        · skip
          first | rfl | (simp [Act.eval]; done)
        · skip
          rw [length_ofK, HYD.out.1]
          have := H11.out.2.2.2.2.2.2.2.2.1.1
          omega
        intro w12 hb hc hs
        have hb12 : Below w9.heap.size w9 w12 := below_ch HL11.out hc (Nat.le_refl _) (fun j hj => by have e : j = lg := hj; have := H11.out.2.2.2.2.2.2.2.2.1.2; omega)
        obtain ⟨T, hT⟩ : ∃ T, S.set J y = T := ⟨_, rfl⟩
        have hTD : ∀ x ∈ T, IsD x := by rw [← hT]; exact set_D HSD.out HYD.out
        have HTD := Lib.hid hTD
        have HTL := Lib.hid (show T.length = 67 by rw [← hT, List.length_set, HSL.out])
        have HTS := Lib.hid (show SlD w12 (.slice (some ⟨lg, 0, none⟩) 67 lc) T from by rw [← hT]; exact SlD.set HS11.out HB1.out J (by rw [HSL.out]; exact hJ67) HSD.out HYD.out hb H11.out.2.2.2.2.2.2.2.2.1.1)
        have H12 := Lib.hid (show w12.rangeAt w.heap.size 0 (ofK .u8 seed) ∧ w12.rangeAt w1.heap.size 0 (ofK .u8 m) ∧ SlD w12 (.slice wo 67 wc) S ∧ w12.rangeAt w4.heap.size 0 (ofK .u8 k) ∧ w12.cell? ⟨wr.heap.size, 0, none⟩ = some (.int .i64 at_) ∧ w12.rangeAt wr.heap.size 1 (ofK .u8 y) ∧ SlD w12 (.slice (some ⟨lg, 0, none⟩) 67 lc) T ∧ Below w7.heap.size w7 w12 from ⟨rangeW_below H9.out.1 hb12, rangeW_below H9.out.2.1 hb12, H9.out.2.2.1.below hb12, rangeW_below H9.out.2.2.2.1 hb12, (hb12.cell (p := ⟨wr.heap.size, 0, none⟩) (block_of_cell H9.out.2.2.2.2.1)).trans H9.out.2.2.2.2.1, rangeW_below H9.out.2.2.2.2.2.1 hb12, HTS.out, below_thn H9.out.2.2.2.2.2.2 hb12 (Nat.le_refl _)⟩)
        obtain ⟨z, hz⟩ : ∃ z, recB m T = z := ⟨_, rfl⟩
        have hzD : IsD z := by rw [← hz]; exact isD_rec hTD HTL.out
        have HZD := Lib.hid hzD
        have HZI := Lib.hid (infoD HZD.out)
        have HZL := Lib.hid (lenD HZD.out isD_zer)
        have HZE := Lib.hid hz
        clear hb hc hs hb12 hT hTD hz HTS HB1 HS1 HS11 HL11 H9 H11
        simp only [Act.put, List.setIfInBounds_toArray, List.set_cons_zero, List.set_cons_succ]
        refine QK.normal ⟨⟨H12.out.2.2.2.2.1, H12.out.2.2.2.2.2.1⟩, ?_⟩
        refine wpAnyH_done (by kernel_rfl) ?_ _
        refine NoPanic.normal ?_
        go_wp2_with (first
    | ((with_reducible refine wpList_slice_ids0 w12 rfl rfl ?_); intro w13 hown hbel hsz; have HE13 := Lib.hid (And.intro hown hbel); have H13 := Lib.hid (show w13.rangeAt w.heap.size 0 (ofK .u8 seed) ∧ w13.rangeAt w1.heap.size 0 (ofK .u8 m) ∧ SlD w13 (.slice wo 67 wc) S ∧ w13.rangeAt w4.heap.size 0 (ofK .u8 k) ∧ w13.cell? ⟨wr.heap.size, 0, none⟩ = some (.int .i64 at_) ∧ w13.rangeAt wr.heap.size 1 (ofK .u8 y) ∧ SlD w13 (.slice (some ⟨lg, 0, none⟩) 67 lc) T ∧ Below w7.heap.size w7 w13 from ⟨rangeW_below H12.out.1 HE13.out.2, rangeW_below H12.out.2.1 HE13.out.2, H12.out.2.2.1.below HE13.out.2, rangeW_below H12.out.2.2.2.1 HE13.out.2, (HE13.out.2.cell (p := ⟨wr.heap.size, 0, none⟩) (block_of_cell H12.out.2.2.2.2.1)).trans H12.out.2.2.2.2.1, rangeW_below H12.out.2.2.2.2.2.1 HE13.out.2, H12.out.2.2.2.2.2.2.1.below HE13.out.2, below_thn H12.out.2.2.2.2.2.2.2 HE13.out.2 (Nat.le_refl _)⟩); clear hown hbel hsz)
    | (at_builtin; refine wpList_append_ids w13 rfl (.tmp 60) (.tmp 61) rfl w12.heap.size (.slice (some ⟨w12.heap.size, 0, none⟩) 0 0) 0 [] rfl HE13.out.1 (.slice (some ⟨lg, 0, none⟩) 67 lc) T rfl H13.out.2.2.2.2.2.2.1 (fun c h => by cases h) HTD.out (by rw [HTL.out]; omega) HE13.out.2.size ?_))
        intro oo oc w14 hown hgr
        rw [HTL.out] at hown ⊢
        have hb14 : Below w12.heap.size w12 w14 := HE13.out.2.grown hgr HE13.out.2.size (fun j e => by cases e; exact Nat.le_refl _)
        have H14 := Lib.hid (show w14.rangeAt w.heap.size 0 (ofK .u8 seed) ∧ w14.rangeAt w1.heap.size 0 (ofK .u8 m) ∧ SlD w14 (.slice wo 67 wc) S ∧ w14.rangeAt w4.heap.size 0 (ofK .u8 k) ∧ w14.cell? ⟨wr.heap.size, 0, none⟩ = some (.int .i64 at_) ∧ w14.rangeAt wr.heap.size 1 (ofK .u8 y) ∧ SlD w14 (.slice (some ⟨lg, 0, none⟩) 67 lc) T ∧ SlD w14 (.slice oo 67 oc) T ∧ Below w7.heap.size w7 w14 from ⟨rangeW_below H12.out.1 hb14, rangeW_below H12.out.2.1 hb14, H12.out.2.2.1.below hb14, rangeW_below H12.out.2.2.2.1 hb14, (hb14.cell (p := ⟨wr.heap.size, 0, none⟩) (block_of_cell H12.out.2.2.2.2.1)).trans H12.out.2.2.2.2.1, rangeW_below H12.out.2.2.2.2.2.1 hb14, H12.out.2.2.2.2.2.2.1.below hb14, SlD.of_owns hown HTL.out.symm HTD.out, below_thn H12.out.2.2.2.2.2.2.2 hb14 (Nat.le_refl _)⟩)
        clear hown hgr hb14 HE13 H13 H12
        go_wp2_with (first
    | (with_reducible refine wpList_load_any rfl 23 (.tmp 4) rfl w1.heap.size 0 rfl (ofK .u8 m) _ H14.out.2.1 Try.underlying23 rfl HMI.out ?_))
        refine (recover_ok m _ T w14 HMD.out H14.out.2.2.2.2.2.2.1 HTL.out HTD.out).mono ?_
        rw [HZE.out]
        rintro e w15 ⟨rfl, hb15⟩
        have H15 := Lib.hid (show w15.rangeAt w.heap.size 0 (ofK .u8 seed) ∧ w15.rangeAt w1.heap.size 0 (ofK .u8 m) ∧ SlD w15 (.slice wo 67 wc) S ∧ w15.rangeAt w4.heap.size 0 (ofK .u8 k) ∧ w15.cell? ⟨wr.heap.size, 0, none⟩ = some (.int .i64 at_) ∧ w15.rangeAt wr.heap.size 1 (ofK .u8 y) ∧ SlD w15 (.slice (some ⟨lg, 0, none⟩) 67 lc) T ∧ SlD w15 (.slice oo 67 oc) T ∧ Below w7.heap.size w7 w15 from ⟨rangeW_below H14.out.1 hb15, rangeW_below H14.out.2.1 hb15, H14.out.2.2.1.below hb15, rangeW_below H14.out.2.2.2.1 hb15, (hb15.cell (p := ⟨wr.heap.size, 0, none⟩) (block_of_cell H14.out.2.2.2.2.1)).trans H14.out.2.2.2.2.1, rangeW_below H14.out.2.2.2.2.2.1 hb15, H14.out.2.2.2.2.2.2.1.below hb15, H14.out.2.2.2.2.2.2.2.1.below hb15, below_thn H14.out.2.2.2.2.2.2.2.2 hb15 (Nat.le_refl _)⟩)
        clear hb15
        go_wp2_with (first
    | ((with_reducible refine wpList_alloc_blk w15 rfl 23 rfl (ofK .u8 zer32) Try.zeroId ?_); intro w16 hb hbel hsz; have HAH17 := Lib.hid (And.intro hb hbel); clear hb hbel hsz)
    | ((with_reducible refine wpList_store_blk w16 rfl 23 (.tmp 14) (.tmp 67) rfl w15.heap.size 23 (ofK .u8 zer32) (ofK .u8 z) HAH17.out.1 rfl rfl HZL.out HZI.out (one_ofK _ _) ?_); intro w17 hb hc hs; have HBH17 := Lib.hid (show w17.rangeAt w15.heap.size 0 (ofK .u8 z) ∧ Below w15.heap.size w15 w17 from ⟨rangeW_blk hb, below_ch HAH17.out.2 hc (Nat.le_refl _) (fun j hj => by have : j = w15.heap.size := hj; omega)⟩); have H17 := Lib.hid (show w17.rangeAt w.heap.size 0 (ofK .u8 seed) ∧ w17.rangeAt w1.heap.size 0 (ofK .u8 m) ∧ SlD w17 (.slice wo 67 wc) S ∧ w17.rangeAt w4.heap.size 0 (ofK .u8 k) ∧ w17.cell? ⟨wr.heap.size, 0, none⟩ = some (.int .i64 at_) ∧ w17.rangeAt wr.heap.size 1 (ofK .u8 y) ∧ SlD w17 (.slice (some ⟨lg, 0, none⟩) 67 lc) T ∧ SlD w17 (.slice oo 67 oc) T ∧ w17.rangeAt w15.heap.size 0 (ofK .u8 z) ∧ Below w7.heap.size w7 w17 from ⟨rangeW_below H15.out.1 HBH17.out.2, rangeW_below H15.out.2.1 HBH17.out.2, H15.out.2.2.1.below HBH17.out.2, rangeW_below H15.out.2.2.2.1 HBH17.out.2, (HBH17.out.2.cell (p := ⟨wr.heap.size, 0, none⟩) (block_of_cell H15.out.2.2.2.2.1)).trans H15.out.2.2.2.2.1, rangeW_below H15.out.2.2.2.2.2.1 HBH17.out.2, H15.out.2.2.2.2.2.2.1.below HBH17.out.2, H15.out.2.2.2.2.2.2.2.1.below HBH17.out.2, HBH17.out.1, below_thn H15.out.2.2.2.2.2.2.2.2 HBH17.out.2 (Nat.le_refl _)⟩); clear hb hc hs)
    | (with_reducible refine wpList_load_any rfl 23 (.tmp 4) rfl w1.heap.size 0 rfl (ofK .u8 m) _ H17.out.2.1 Try.underlying23 rfl HMI.out ?_))
        refine (lrecovered_any m _ T w17 HMD.out H17.out.2.2.2.2.2.2.2.1 HTL.out HTD.out).mono ?_
        rw [HZE.out]
        rintro e w18 ⟨rfl, hb18⟩
        have H18 := Lib.hid (show w18.rangeAt w.heap.size 0 (ofK .u8 seed) ∧ w18.rangeAt w1.heap.size 0 (ofK .u8 m) ∧ SlD w18 (.slice wo 67 wc) S ∧ w18.rangeAt w4.heap.size 0 (ofK .u8 k) ∧ w18.cell? ⟨wr.heap.size, 0, none⟩ = some (.int .i64 at_) ∧ w18.rangeAt wr.heap.size 1 (ofK .u8 y) ∧ SlD w18 (.slice (some ⟨lg, 0, none⟩) 67 lc) T ∧ SlD w18 (.slice oo 67 oc) T ∧ w18.rangeAt w15.heap.size 0 (ofK .u8 z) ∧ Below w7.heap.size w7 w18 from ⟨rangeW_below H17.out.1 hb18, rangeW_below H17.out.2.1 hb18, H17.out.2.2.1.below hb18, rangeW_below H17.out.2.2.2.1 hb18, (hb18.cell (p := ⟨wr.heap.size, 0, none⟩) (block_of_cell H17.out.2.2.2.2.1)).trans H17.out.2.2.2.2.1, rangeW_below H17.out.2.2.2.2.2.1 hb18, H17.out.2.2.2.2.2.2.1.below hb18, H17.out.2.2.2.2.2.2.2.1.below hb18, rangeW_below H17.out.2.2.2.2.2.2.2.2.1 hb18, below_thn H17.out.2.2.2.2.2.2.2.2.2 hb18 (Nat.le_refl _)⟩)
        clear hb18
        go_wp2_with (first
    | ((with_reducible refine wpList_alloc_blk w18 rfl 23 rfl (ofK .u8 zer32) Try.zeroId ?_); intro w19 hb hbel hsz; have HAH20 := Lib.hid (And.intro hb hbel); clear hb hbel hsz)
    | ((with_reducible refine wpList_store_blk w19 rfl 23 (.tmp 16) (.tmp 71) rfl w18.heap.size 23 (ofK .u8 zer32) (ofK .u8 z) HAH20.out.1 rfl rfl HZL.out HZI.out (one_ofK _ _) ?_); intro w20 hb hc hs; have HBH20 := Lib.hid (show w20.rangeAt w18.heap.size 0 (ofK .u8 z) ∧ Below w18.heap.size w18 w20 from ⟨rangeW_blk hb, below_ch HAH20.out.2 hc (Nat.le_refl _) (fun j hj => by have : j = w18.heap.size := hj; omega)⟩); have H20 := Lib.hid (show w20.rangeAt w.heap.size 0 (ofK .u8 seed) ∧ w20.rangeAt w1.heap.size 0 (ofK .u8 m) ∧ SlD w20 (.slice wo 67 wc) S ∧ w20.rangeAt w4.heap.size 0 (ofK .u8 k) ∧ w20.cell? ⟨wr.heap.size, 0, none⟩ = some (.int .i64 at_) ∧ w20.rangeAt wr.heap.size 1 (ofK .u8 y) ∧ SlD w20 (.slice (some ⟨lg, 0, none⟩) 67 lc) T ∧ SlD w20 (.slice oo 67 oc) T ∧ w20.rangeAt w15.heap.size 0 (ofK .u8 z) ∧ w20.rangeAt w18.heap.size 0 (ofK .u8 z) ∧ Below w7.heap.size w7 w20 from ⟨rangeW_below H18.out.1 HBH20.out.2, rangeW_below H18.out.2.1 HBH20.out.2, H18.out.2.2.1.below HBH20.out.2, rangeW_below H18.out.2.2.2.1 HBH20.out.2, (HBH20.out.2.cell (p := ⟨wr.heap.size, 0, none⟩) (block_of_cell H18.out.2.2.2.2.1)).trans H18.out.2.2.2.2.1, rangeW_below H18.out.2.2.2.2.2.1 HBH20.out.2, H18.out.2.2.2.2.2.2.1.below HBH20.out.2, H18.out.2.2.2.2.2.2.2.1.below HBH20.out.2, rangeW_below H18.out.2.2.2.2.2.2.2.2.1 HBH20.out.2, HBH20.out.1, below_thn H18.out.2.2.2.2.2.2.2.2.2 HBH20.out.2 (Nat.le_refl _)⟩); clear hb hc hs))
        simp only [Act.put, List.setIfInBounds_toArray, List.set_cons_zero, List.set_cons_succ]
        obtain ⟨b, hb⟩ : ∃ b, decide (z = k) = b := ⟨_, rfl⟩
        have C1 := Lib.hid (fun q => verify_any k m (.slice (some ⟨lg, 0, none⟩) 67 lc) T (grew w20 q) HKD.out HMD.out (H20.out.2.2.2.2.2.2.1.below (below_grew w20 q)) HTD.out)
        rw [verL_67 HTL.out, HZE.out, hb] at C1
        have C2 := Lib.hid (fun q => verify_any z m (.slice (some ⟨lg, 0, none⟩) 67 lc) T (grew w20 q) HZD.out HMD.out (H20.out.2.2.2.2.2.2.1.below (below_grew w20 q)) HTD.out)
        rw [verL_67 HTL.out, HZE.out, decide_eq_true rfl] at C2
        have C3 := Lib.hid (fun q => same_any (.slice (some ⟨lg, 0, none⟩) 67 lc) (.slice oo 67 oc) T T (grew w20 q) (H20.out.2.2.2.2.2.2.1.below (below_grew w20 q)) (H20.out.2.2.2.2.2.2.2.1.below (below_grew w20 q)) HTD.out HTD.out)
        rw [decide_eq_true rfl] at C3
        have he := fun w => eq_ids w z z true hzD hzD (decide_eq_true rfl)
        have he2 := fun w => eq_ids w z k b hzD HKD.out hb
        clear hb hzD H14 H15 H17 H18 HAH17 HBH17 HAH20 HBH20
        cases b
        · refine wp_region_grew (by kernel_rfl) (by kernel_rfl) ?_
          repeat (first | go_big_quiet_skip | (go_big_quiet_want; (first | (refine quiet_load_mid 23 (.tmp 14) rfl w15.heap.size 0 rfl (ofK .u8 z) _ (fun w' hw' => rangeAt_grew H20.out.2.2.2.2.2.2.2.2.1 w' hw') Try.underlying23 rfl HZI.out ?_; go_simp; go_big_quiet_on) | (refine quiet_load_mid 23 (.tmp 16) rfl w18.heap.size 0 rfl (ofK .u8 z) _ (fun w' hw' => rangeAt_grew H20.out.2.2.2.2.2.2.2.2.2.1 w' hw') Try.underlying23 rfl HZI.out ?_; go_simp; go_big_quiet_on) | (refine quiet_load_mid 23 (.tmp 9) rfl w4.heap.size 0 rfl (ofK .u8 k) _ (fun w' hw' => rangeAt_grew H20.out.2.2.2.1 w' hw') Try.underlying23 rfl HKI.out ?_; go_simp; go_big_quiet_on) | (refine quiet_load_mid 23 (.tmp 4) rfl w1.heap.size 0 rfl (ofK .u8 m) _ (fun w' hw' => rangeAt_grew H20.out.2.1 w' hw') Try.underlying23 rfl HMI.out ?_; go_simp; go_big_quiet_on) | (go_big_quiet_op; (first | go_big_quiet_on | (apply Exists.intro; refine ⟨fun _ => ?_, ?_⟩; (focus (first | (go_at_call 64; with_reducible exact calls_grew (C1.out _)) | (go_at_call 64; with_reducible exact calls_grew (C2.out _)) | (go_at_call 60; with_reducible exact calls_grew (C3.out _)))); go_big_quiet_on))))))
          refine wpQuiet_nil ?_
          intro w21 hw21
          obtain ⟨q, rfl⟩ := hw21
          have H21 := Lib.hid (below_thn H20.out.2.2.2.2.2.2.2.2.2.2 (below_grew w20 q) (Nat.le_refl _))
          go_wp2_with fail
          go_roundw
          case rel => exact ⟨i + 1, by omega, by omega, by go_num, H21⟩
          case measure => simp [intOf]; omega
        · refine wp_region_grew (by kernel_rfl) (by kernel_rfl) ?_
          repeat (first | go_big_quiet_skip | (go_big_quiet_want; (first | (refine quiet_load_mid 23 (.tmp 14) rfl w15.heap.size 0 rfl (ofK .u8 z) _ (fun w' hw' => rangeAt_grew H20.out.2.2.2.2.2.2.2.2.1 w' hw') Try.underlying23 rfl HZI.out ?_; go_simp; go_big_quiet_on) | (refine quiet_load_mid 23 (.tmp 16) rfl w18.heap.size 0 rfl (ofK .u8 z) _ (fun w' hw' => rangeAt_grew H20.out.2.2.2.2.2.2.2.2.2.1 w' hw') Try.underlying23 rfl HZI.out ?_; go_simp; go_big_quiet_on) | (refine quiet_load_mid 23 (.tmp 9) rfl w4.heap.size 0 rfl (ofK .u8 k) _ (fun w' hw' => rangeAt_grew H20.out.2.2.2.1 w' hw') Try.underlying23 rfl HKI.out ?_; go_simp; go_big_quiet_on) | (refine quiet_load_mid 23 (.tmp 4) rfl w1.heap.size 0 rfl (ofK .u8 m) _ (fun w' hw' => rangeAt_grew H20.out.2.1 w' hw') Try.underlying23 rfl HMI.out ?_; go_simp; go_big_quiet_on) | (go_big_quiet_op; (first | go_big_quiet_on | (apply Exists.intro; refine ⟨fun _ => ?_, ?_⟩; (focus (first | (go_at_call 64; with_reducible exact calls_grew (C1.out _)) | (go_at_call 64; with_reducible exact calls_grew (C2.out _)) | (go_at_call 60; with_reducible exact calls_grew (C3.out _)))); go_big_quiet_on))))))
          refine wpQuiet_nil ?_
          intro w21 hw21
          obtain ⟨q, rfl⟩ := hw21
          have H21 := Lib.hid (below_thn H20.out.2.2.2.2.2.2.2.2.2.2 (below_grew w20 q) (Nat.le_refl _))
          go_wp2_with fail
          go_roundw
          case rel => exact ⟨i + 1, by omega, by omega, by go_num, H21⟩
          case measure => simp [intOf]; omega
    · obtain rfl : i = n := by omega
      go_wp2_with fail
      go_ret
      exact ⟨rfl, below_thn HB7.out HW.out.2.2.2.2 (Nat.le_refl _)⟩

end Go.Proofs.Ytkbhehnpgnilmaa
