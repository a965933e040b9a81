/-
  Law 06: WotsBelow, walked. Conditions: bytes.
-/
import Derived.Test.YtkbhehnpgnilmaaLwZ
namespace Go.Proofs.Ytkbhehnpgnilmaa
open Go Go.RowKit
set_option linter.unusedSimpArgs false

/-- whether one of the first n is below the other's -/
def lessUp (x y : List Int) : Nat → Bool
  | 0 => false
  | i + 1 => lessUp x y i || decide (x.getD i 0 < y.getD i 0)
theorem lessUp_iff (x y : List Int) : ∀ n, lessUp x y n = true ↔ ∃ i, i < n ∧ x.getD i 0 < y.getD i 0
  | 0 => by simp [lessUp]
  | n + 1 => by
    unfold lessUp
    rw [Bool.or_eq_true, lessUp_iff x y n, decide_eq_true_eq]
    constructor
    · rintro (⟨i, h, k⟩ | h)
      · exact ⟨i, by omega, k⟩
      · exact ⟨n, by omega, h⟩
    · rintro ⟨i, h, k⟩
      by_cases e : i = n
      · subst e; exact .inr k
      · exact .inl ⟨i, by omega, k⟩
theorem lessUp_ab {a b : List Int} (ha : IsD a) (hb : IsD b) : lessUp (digitsL a) (digitsL b) 67 = !decide (a = b) := by
  by_cases h : a = b
  · subst h
    rw [decide_eq_true rfl]
    cases he : lessUp (digitsL a) (digitsL a) 67
    · rfl
    · obtain ⟨i, _, hi⟩ := (lessUp_iff _ _ _).1 he
      omega
  · rw [decide_eq_false h]
    exact (lessUp_iff _ _ _).2 (below_law ha hb h)

set_option maxRecDepth 100000 in
set_option maxHeartbeats 4000000 in
theorem wotsBelow_walk (a b : List Int) (w : World) (l0 : a.length = 32) (b0 : AllB a) (l1 : b.length = 32) (b1 : AllB b) :
    Calls Try.prog 16 #[.agg (ofK .u8 a).toArray, .agg (ofK .u8 b).toArray] w (TrueP w) := by
  have HAD := Lib.hid (show IsD a from ⟨l0, b0⟩)
  have HAI := Lib.hid (infoD HAD.out)
  have HAL := Lib.hid (lenD HAD.out isD_zer)
  have HBD := Lib.hid (show IsD b from ⟨l1, b1⟩)
  have HBI := Lib.hid (infoD HBD.out)
  have HBL := Lib.hid (lenD HBD.out isD_zer)
  clear l0 b0 l1 b1
  go_enter Try.func16, Try.ntmps16
  go_wp2_with (first
    | (with_reducible refine wpList_box_blk w rfl 23 (.tmp 0) rfl (ofK .u8 a) rfl ?_; intro w1 hb hbel hsz; have HB1 := Lib.hid (And.intro hb (And.intro hbel hsz)); clear hb hbel hsz)
    | (with_reducible refine wpList_box_blk w1 rfl 23 (.tmp 1) rfl (ofK .u8 b) rfl ?_; intro w2 hb hbel hsz; have HB2 := Lib.hid (show Blk w2 w.heap.size 23 (ofK .u8 a) ∧ Blk w2 w1.heap.size 23 (ofK .u8 b) ∧ Below w.heap.size w w2 from ⟨HB1.out.1.below hbel HB1.out.1.lt, hb, below_thn HB1.out.2.1 hbel (Nat.le_refl _)⟩); clear hb hbel hsz))
  refine (wakes6_any w2).mono ?_
  rintro e w3 ⟨rfl, hb3⟩
  have HS0 := Lib.hid (show w3.drew.rangeAt w.heap.size 0 (ofK .u8 a) ∧ w3.drew.rangeAt w1.heap.size 0 (ofK .u8 b) from ⟨rangeW_below (rangeW_blk HB2.out.1) hb3.drew, rangeW_below (rangeW_blk HB2.out.2.1) hb3.drew⟩)
  have HB0 := Lib.hid (show Below w.heap.size w w3.drew from (below_thn HB2.out.2.2 hb3 (Nat.le_refl _)).drew)
  clear hb3 HB1 HB2
  go_wp2_with fail
  refine wp_region_takes (fun w' => w'.rangeAt w.heap.size 0 (ofK .u8 a) ∧ w'.rangeAt w1.heap.size 0 (ofK .u8 b)) [0, 2] 4 (by kernel_rfl) rfl (by kernel_rfl) (by kernel_rfl) HS0.out ?_
  generalize w3.drew = v0 at HS0 HB0 ⊢
  refine' HeldL.run ?_ ?_ ?_ ?_; rotate_left 2; (simp only [List.getElem?_toArray, List.getElem?_cons_zero, List.getElem?_cons_succ]; rfl); rfl; (rintro w' ⟨k0, k1⟩; exact exec_load_mid rfl rfl k0 Try.underlying23 rfl HAI.out); simp only [Act.put, List.setIfInBounds_toArray, List.set_cons_zero, List.set_cons_succ]
  refine' HeldL.run ?_ ?_ ?_ ?_; rotate_left 2; (simp only [List.getElem?_toArray, List.getElem?_cons_zero, List.getElem?_cons_succ]; rfl); rfl; (rintro w' ⟨k0, k1⟩; exact exec_load_mid rfl rfl k1 Try.underlying23 rfl HBI.out); simp only [Act.put, List.setIfInBounds_toArray, List.set_cons_zero, List.set_cons_succ]
  refine' wpAnyH_one 1 (by kernel_rfl) ?_ ?_; rotate_left; (simp only [List.getElem?_toArray, List.getElem?_cons_zero, List.getElem?_cons_succ]; rfl)
  try simp only [Act.put]
  go_wp2_with fail
  refine (digits_any a v0 HAD.out).mono ?_
  rintro e v1 ⟨dao1, dcp1, rfl, hown, hb⟩
  obtain ⟨_, _, hdv, _, _, hdc⟩ := (Sl.of_owns hown).nums
  rw [digitsL_length HAD.out] at hdv
  simp only [Value.slice.injEq, true_and] at hdv
  obtain ⟨hdv1, hdv2⟩ := hdv
  rw [← hdv1] at hdc
  obtain ⟨dg1, dgo1, rfl, _, hdcell⟩ := hdc (by rw [digitsL_length HAD.out]; omega)
  have HD1 := Lib.hid (show ∀ i (hi : i < (digitsL a).length), v1.cell? ⟨dg1, dgo1 + i, none⟩ = some (.int .i64 (digitsL a)[i]) from hdcell)
  have HDB1 := Lib.hid hb
  clear hown hb hdv1 hdv2 hdc hdcell
  try go_wp2_with fail
  have HS1 := Lib.hid (And.intro (rangeW_below HS0.out.1 HDB1.out) (rangeW_below HS0.out.2 HDB1.out))
  refine QK.normal ⟨HS1.out, ?_⟩
  refine' wpAnyH_one 3 (by kernel_rfl) ?_ ?_; rotate_left; (simp only [List.getElem?_toArray, List.getElem?_cons_zero, List.getElem?_cons_succ]; rfl)
  try simp only [Act.put]
  go_wp2_with fail
  refine (digits_any b v1 HBD.out).mono ?_
  rintro e v2 ⟨dao2, dcp2, rfl, hown, hb⟩
  obtain ⟨_, _, hdv, _, _, hdc⟩ := (Sl.of_owns hown).nums
  rw [digitsL_length HBD.out] at hdv
  simp only [Value.slice.injEq, true_and] at hdv
  obtain ⟨hdv1, hdv2⟩ := hdv
  rw [← hdv1] at hdc
  obtain ⟨dg2, dgo2, rfl, _, hdcell⟩ := hdc (by rw [digitsL_length HBD.out]; omega)
  have HD2 := Lib.hid (show ∀ i (hi : i < (digitsL b).length), v2.cell? ⟨dg2, dgo2 + i, none⟩ = some (.int .i64 (digitsL b)[i]) from hdcell)
  have HDB2 := Lib.hid hb
  clear hown hb hdv1 hdv2 hdc hdcell
  try go_wp2_with fail
  have HS2 := Lib.hid (And.intro (rangeW_below HS1.out.1 HDB2.out) (rangeW_below HS1.out.2 HDB2.out))
  refine QK.normal ⟨HS2.out, ?_⟩
  refine wpAnyH_takes (fuel := 0) (by kernel_rfl) noPanic_any HS2.out [4, 5] _ _ (by kernel_rfl) ?_
  try simp only [Act.put]
  iterate 2 (refine' HeldL.run ?_ ?_ ?_ ?_; rotate_left 2; (simp only [List.getElem?_toArray, List.getElem?_cons_zero, List.getElem?_cons_succ]; rfl); rfl; (rintro w' ⟨k0, k1⟩; go_simp; with_reducible rfl); simp only [Act.put, List.setIfInBounds_toArray, List.set_cons_zero, List.set_cons_succ])
  refine wpAnyH_done (by kernel_rfl) ?_ _
  refine NoPanic.normal ?_
  have HE := Lib.hid (show (∀ i (hi : i < (digitsL a).length), v2.cell? ⟨dg1, dgo1 + i, none⟩ = some (.int .i64 (digitsL a)[i])) ∧ (∀ i (hi : i < (digitsL b).length), v2.cell? ⟨dg2, dgo2 + i, none⟩ = some (.int .i64 (digitsL b)[i])) ∧ v2.rangeAt w.heap.size 0 (ofK .u8 a) ∧ v2.rangeAt w1.heap.size 0 (ofK .u8 b) ∧ Below w.heap.size w v2 from ⟨fun i hi => (HDB2.out.cell (p := ⟨dg1, dgo1 + i, none⟩) (block_of_cell (HD1.out i hi))).trans (HD1.out i hi), HD2.out, HS2.out.1, HS2.out.2, below_thn (below_thn HB0.out HDB1.out (Nat.le_refl _)) HDB2.out (Nat.le_refl _)⟩)
  clear HD1 HD2 HDB1 HDB2 HS0 HS1 HS2 HB0
  go_wp2_with fail
  go_loopw [7, 8, 26] (fun s t c wr => ∃ i : Nat, i ≤ 67 ∧ c = .int .i64 i ∧ ∃ p q : Bool, s = .bool p ∧ t = .bool q ∧ Hid (p = lessUp (digitsL a) (digitsL b) i ∧ q = lessUp (digitsL b) (digitsL a) i ∧ Below v2.heap.size v2 wr)) (fun _ _ c _ => 67 - (intOf c).toNat)
  case atStart => exact ⟨0, by omega, rfl, false, false, rfl, rfl, Lib.hid ⟨rfl, rfl, Below.refl _ _⟩⟩
  case round =>
    obtain ⟨i, hi, rfl, p, q, rfl, rfl, HT⟩ := hrel
    by_cases hil : i < 67
    · have hi0 : (0 : Int) ≤ (i : Int) := by omega
      have hi1 : (i : Int) < 67 := by omega
      have hia : i < (digitsL a).length := by rw [digitsL_length HAD.out]; exact hil
      have hib : i < (digitsL b).length := by rw [digitsL_length HBD.out]; exact hil
      have hx := (HT.out.2.2.cell (p := ⟨dg1, dgo1 + i, none⟩) (block_of_cell (HE.out.1 i hia))).trans (HE.out.1 i hia)
      have hy := (HT.out.2.2.cell (p := ⟨dg2, dgo2 + i, none⟩) (block_of_cell (HE.out.2.1 i hib))).trans (HE.out.2.1 i hib)
      have hda := digitsL_bd HAD.out _ (List.getElem_mem hia)
      have hga : (digitsL a).getD i 0 = (digitsL a)[i] := by rw [List.getD_eq_getElem?_getD, List.getElem?_eq_getElem hia]; rfl
      have hgb : (digitsL b).getD i 0 = (digitsL b)[i] := by rw [List.getD_eq_getElem?_getD, List.getElem?_eq_getElem hib]; rfl
      generalize (digitsL a)[i] = d1 at hx hda hga
      generalize (digitsL b)[i] = d2 at hy hgb
      have hd0 := hda.1
      have hd15 := hda.2
      have g1 := fun q => cell_grew hx q
      have g2 := fun q => cell_grew hy q
      have HG := Lib.hid (And.intro hga hgb)
      have H1 := Lib.hid (show p = lessUp (digitsL a) (digitsL b) i from HT.out.1)
      have H2 := Lib.hid (show q = lessUp (digitsL b) (digitsL a) i from HT.out.2.1)
      have HT3 := Lib.hid (show ∀ z, Below v2.heap.size v2 (grew wr z) from fun z => below_thn HT.out.2.2 (below_grew wr z) (Nat.le_refl _))
      clear hx hy hia hib hda hga hgb HT
      go_wp2_with fail
      cases p <;> cases q
      · refine wp_region_grew (by kernel_rfl) (by kernel_rfl) ?_
        repeat (first | go_big_quiet_skip | (go_big_quiet_want; go_big_quiet_op; go_big_quiet_on))
        refine wpQuiet_nil ?_
        intro w9 hw9
        obtain ⟨z, rfl⟩ := hw9
        have k1 := g1 z
        have k2 := g2 z
        have HT4 := Lib.hid (HT3.out z)
        clear g1 g2 HT3
        generalize grew wr z = w9 at k1 k2 HT4 ⊢
        go_wp2_with fail
        go_roundw
        case rel => exact ⟨i + 1, by omega, by go_num, _, _, rfl, rfl, Lib.hid ⟨by unfold lessUp; rw [← H1.out, HG.out.1, HG.out.2]; simp, by unfold lessUp; rw [← H2.out, HG.out.1, HG.out.2]; simp, HT4.out⟩⟩
        case measure => simp [intOf]; omega
      · refine wp_region_grew (by kernel_rfl) (by kernel_rfl) ?_
        repeat (first | go_big_quiet_skip | (go_big_quiet_want; go_big_quiet_op; go_big_quiet_on))
        refine wpQuiet_nil ?_
        intro w9 hw9
        obtain ⟨z, rfl⟩ := hw9
        have k1 := g1 z
        have k2 := g2 z
        have HT4 := Lib.hid (HT3.out z)
        clear g1 g2 HT3
        generalize grew wr z = w9 at k1 k2 HT4 ⊢
        go_wp2_with fail
        go_roundw
        case rel => exact ⟨i + 1, by omega, by go_num, _, _, rfl, rfl, Lib.hid ⟨by unfold lessUp; rw [← H1.out, HG.out.1, HG.out.2]; simp, by unfold lessUp; rw [← H2.out, HG.out.1, HG.out.2]; simp, HT4.out⟩⟩
        case measure => simp [intOf]; omega
      · refine wp_region_grew (by kernel_rfl) (by kernel_rfl) ?_
        repeat (first | go_big_quiet_skip | (go_big_quiet_want; go_big_quiet_op; go_big_quiet_on))
        refine wpQuiet_nil ?_
        intro w9 hw9
        obtain ⟨z, rfl⟩ := hw9
        have k1 := g1 z
        have k2 := g2 z
        have HT4 := Lib.hid (HT3.out z)
        clear g1 g2 HT3
        generalize grew wr z = w9 at k1 k2 HT4 ⊢
        go_wp2_with fail
        go_roundw
        case rel => exact ⟨i + 1, by omega, by go_num, _, _, rfl, rfl, Lib.hid ⟨by unfold lessUp; rw [← H1.out, HG.out.1, HG.out.2]; simp, by unfold lessUp; rw [← H2.out, HG.out.1, HG.out.2]; simp, HT4.out⟩⟩
        case measure => simp [intOf]; omega
      · refine wp_region_grew (by kernel_rfl) (by kernel_rfl) ?_
        repeat (first | go_big_quiet_skip | (go_big_quiet_want; go_big_quiet_op; go_big_quiet_on))
        refine wpQuiet_nil ?_
        intro w9 hw9
        obtain ⟨z, rfl⟩ := hw9
        have k1 := g1 z
        have k2 := g2 z
        have HT4 := Lib.hid (HT3.out z)
        clear g1 g2 HT3
        generalize grew wr z = w9 at k1 k2 HT4 ⊢
        go_wp2_with fail
        go_roundw
        case rel => exact ⟨i + 1, by omega, by go_num, _, _, rfl, rfl, Lib.hid ⟨by unfold lessUp; rw [← H1.out, HG.out.1, HG.out.2]; simp, by unfold lessUp; rw [← H2.out, HG.out.1, HG.out.2]; simp, HT4.out⟩⟩
        case measure => simp [intOf]; omega
    · obtain rfl : i = 67 := by omega
      obtain ⟨e, he0⟩ : ∃ e, decide (a = b) = e := ⟨_, rfl⟩
      have he := fun w => eq_ids w a b e HAD.out HBD.out he0
      have hp : p = !e := by rw [HT.out.1, lessUp_ab HAD.out HBD.out, he0]
      have hq : q = !e := by rw [HT.out.2.1, lessUp_ab HBD.out HAD.out, ← he0]; congr 1; exact decide_eq_decide.2 eq_comm
      have HR := Lib.hid (show wr.rangeAt w.heap.size 0 (ofK .u8 a) ∧ wr.rangeAt w1.heap.size 0 (ofK .u8 b) ∧ Below w.heap.size w wr from ⟨rangeW_below HE.out.2.2.1 HT.out.2.2, rangeW_below HE.out.2.2.2.1 HT.out.2.2, below_thn HE.out.2.2.2.2 HT.out.2.2 (Nat.le_refl _)⟩)
      clear HT he0
      subst hp hq
      cases e
      · go_wp2_with (first
    | (with_reducible refine wpList_load_any rfl 23 (.tmp 2) rfl w.heap.size 0 rfl (ofK .u8 a) _ HR.out.1 Try.underlying23 rfl HAI.out ?_)
    | (with_reducible refine wpList_load_any rfl 23 (.tmp 3) rfl w1.heap.size 0 rfl (ofK .u8 b) _ HR.out.2.1 Try.underlying23 rfl HBI.out ?_)
    | (refine wpList_load_want rfl 23 (.tmp 2) rfl w.heap.size 0 rfl (ofK .u8 a) _ HR.out.1 Try.underlying23 rfl HAI.out ?_)
    | (refine wpList_load_want rfl 23 (.tmp 3) rfl w1.heap.size 0 rfl (ofK .u8 b) _ HR.out.2.1 Try.underlying23 rfl HBI.out ?_))
        go_ret
        exact ⟨rfl, HR.out.2.2⟩
      · go_wp2_with (first
    | (with_reducible refine wpList_load_any rfl 23 (.tmp 2) rfl w.heap.size 0 rfl (ofK .u8 a) _ HR.out.1 Try.underlying23 rfl HAI.out ?_)
    | (with_reducible refine wpList_load_any rfl 23 (.tmp 3) rfl w1.heap.size 0 rfl (ofK .u8 b) _ HR.out.2.1 Try.underlying23 rfl HBI.out ?_)
    | (refine wpList_load_want rfl 23 (.tmp 2) rfl w.heap.size 0 rfl (ofK .u8 a) _ HR.out.1 Try.underlying23 rfl HAI.out ?_)
    | (refine wpList_load_want rfl 23 (.tmp 3) rfl w1.heap.size 0 rfl (ofK .u8 b) _ HR.out.2.1 Try.underlying23 rfl HBI.out ?_))
        go_ret
        exact ⟨rfl, HR.out.2.2⟩

end Go.Proofs.Ytkbhehnpgnilmaa
