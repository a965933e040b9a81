/-
  Layer 5: term.Same, walked. Conditions: none.
-/
import Derived.Test.YtfenikoajadiaaaTmG
namespace Go.Proofs.Ytfenikoajadiaaa
open Go Go.RowKit
set_option linter.unusedSimpArgs false
set_option linter.unusedVariables false


mutual
def sameT : Tm → Tm → Bool
  | .mk k u n s ks, .mk k' u' n' s' ks' => (k == k') && ((u == u') && ((n == n') && ((s.toList == s'.toList) && sameL ks ks')))
def sameL : List Tm → List Tm → Bool
  | [], [] => true
  | a :: xa, b :: bs => sameT a b && sameL xa bs
  | [], _ :: _ => false
  | _ :: _, [] => false
end
theorem sameL_cons (a b : Tm) (xa bs : List Tm) : sameL (a :: xa) (b :: bs) = (sameT a b && sameL xa bs) := by rw [sameL]
theorem sameL_len : ∀ {xa bs : List Tm}, xa.length ≠ bs.length → sameL xa bs = false
  | [], [], h => (h rfl).elim
  | [], _ :: _, _ => by rw [sameL]
  | _ :: _, [], _ => by rw [sameL]
  | a :: xa, b :: bs, h => by rw [sameL, sameL_len (by simpa using h), Bool.and_false]
theorem toList_inj {s t : ByteArray} (h : s.toList = t.toList) : s = t := by
  rw [ByteArray.toList_eq, ByteArray.toList_eq] at h
  exact ByteArray.ext (Array.toList_inj.1 h)
theorem sameL_eq : ∀ {xa bs : List Tm}, (∀ a ∈ xa, ∀ b, sameT a b = true ↔ a = b) → (sameL xa bs = true ↔ xa = bs)
  | [], [], _ => by rw [sameL]; simp
  | [], _ :: _, _ => by rw [sameL]; simp
  | _ :: _, [], _ => by rw [sameL]; simp
  | a :: xa, b :: bs, ih => by rw [sameL, Bool.and_eq_true, ih a List.mem_cons_self, sameL_eq (fun a ha => ih a (List.mem_cons_of_mem _ ha))]; simp
theorem sameT_iff : ∀ (a b : Tm), sameT a b = true ↔ a = b := by
  refine Tm.ind fun k u n s ks ih b => ?_
  obtain ⟨k', u', n', s', ks'⟩ := b
  rw [sameT]
  simp only [Bool.and_eq_true, beq_iff_eq, sameL_eq ih, Tm.mk.injEq]
  constructor
  · rintro ⟨h1, h2, h3, h4, h5⟩; exact ⟨h1, h2, h3, toList_inj h4, h5⟩
  · rintro ⟨h1, h2, h3, h4, h5⟩; exact ⟨h1, h2, h3, by rw [h4], h5⟩

set_option maxRecDepth 100000 in
set_option maxHeartbeats 8000000 in
theorem eqf_any (xa bs : List Tm) (va vb : Value) (Fa Fb : Nat → Prop) (w : World) (ha : SlT Fa w va xa) (hb : SlT Fb w vb bs) (ih : ∀ a ∈ xa, ∀ (b : Tm) (ca cb : List Value) (Fa Fb : Nat → Prop) (w : World), TmC Fa w ca a → TmC Fb w cb b → Calls Try.prog 14 #[.agg ca.toArray, .agg cb.toArray] w (fun e w' => e = .returned (.bool (sameT a b)) ∧ Below w.heap.size w w')) :
    Calls Try.prog 47 #[va, vb, .func (.func 14) #[] #[]] w (fun e w' => e = .returned (.bool (sameL xa bs)) ∧ Below w.heap.size w w') := by
  have HIH := Lib.hid ih
  obtain ⟨ao, c, rfl, hca, hcm, -⟩ := id ha
  obtain ⟨bo, d, rfl, hdb, hdm, -⟩ := id hb
  obtain ⟨R, hR⟩ : ∃ R, sameL xa bs = R := ⟨_, rfl⟩
  rw [hR]
  have HR := Lib.hid hR
  obtain ⟨m, hm⟩ : ∃ m, xa.length = m := ⟨_, rfl⟩
  obtain ⟨n, hn⟩ : ∃ n, bs.length = n := ⟨_, rfl⟩
  have HM := Lib.hid hm
  have HN := Lib.hid hn
  rw [hm] at ha hca ⊢
  rw [hn] at hb hdb ⊢
  have hm63 : m ≤ 9223372036854775807 := by unfold maxLen at hcm; omega
  have hn63 : n ≤ 9223372036854775807 := by unfold maxLen at hdm; omega
  have HA := Lib.hid ha
  have HB := Lib.hid hb
  clear ha hb ih hR hm hn hca hcm hdb hdm
  by_cases hmn : m = n
  rotate_left
  · have e1 : ((m : Int) != (n : Int)) = true := by simp; omega
    have HE := Lib.hid (show R = false from by rw [← HR.out]; exact sameL_len (by rw [HM.out, HN.out]; exact hmn))
    clear hmn
    go_enter Try.func47, Try.ntmps47
    go_wp2_with fail
    go_ret
    exact ⟨by rw [HE.out]; rfl, Below.refl _ _⟩
  have e1 : ((m : Int) != (n : Int)) = false := by simp; omega
  have HMN := Lib.hid hmn
  clear hmn
  go_enter Try.func47, Try.ntmps47
  go_wp2_with fail
  clear e1
  go_loopw [17] (fun i wr => ∃ (j : Nat), i = .int .i64 j ∧ j ≤ m ∧ Hid (sameL (xa.drop j) (bs.drop j) = R) ∧ Hid (Below w.heap.size w wr)) (fun i _ => m - (intOf i).toNat)
  case atStart => exact ⟨0, rfl, Nat.zero_le _, Lib.hid HR.out, Lib.hid (Below.refl _ _)⟩
  case round =>
    obtain ⟨j, rfl, hj, HQ, HW⟩ := hrel
    by_cases hlt : j < m
    · have hja : j < xa.length := by rw [HM.out]; exact hlt
      have hjb : j < bs.length := by rw [HN.out, ← HMN.out]; exact hlt
      have hjz : (j : Int) < (m : Int) := by omega
      have hjn : (j : Int) < (n : Int) := by have := HMN.out; omega
      have hj0 : (0 : Int) ≤ (j : Int) := by omega
      obtain ⟨b1, o1, ca, rfl, -, -, hra, hta⟩ := HA.out.get hja
      obtain ⟨b2, o2, cb, rfl, -, -, hrb, htb⟩ := HB.out.get hjb
      have HMEM := Lib.hid (List.getElem_mem hja)
      have HQ2 := Lib.hid (show sameL (xa[j] :: xa.drop (j + 1)) (bs[j] :: bs.drop (j + 1)) = R from by rw [← List.drop_eq_getElem_cons hja, ← List.drop_eq_getElem_cons hjb]; exact HQ.out)
      generalize xa[j] = ta at hta HMEM HQ2
      generalize bs[j] = tb at htb HQ2
      obtain ⟨aa, pa, rfl, -, -, -⟩ := hta.shape
      obtain ⟨ab, pb, rfl, -, -, -⟩ := htb.shape
      have HRA := Lib.hid (And.intro hra hrb)
      have HTM := Lib.hid (And.intro hta htb)
      clear hra hrb hta htb hja hjb

      go_wp2_with (first
    | (with_reducible refine wpList_load_any rfl 24 (.tmp 20) rfl b1 (o1 + j * 5) rfl (tmC ta.k ta.u ta.n ta.s (.slice aa ta.ks.length pa)) _ (rangeW_ch HRA.out.1 (Ch.of_below (S := fun _ => False) HW.out (Nat.le_refl _)) (fun h => h)) Try.underlying24 rfl (tmC_info _ _ _ _ _) ?_)
    | ((with_reducible refine wpList_alloc_blk wr rfl 24 rfl (tmC 0 0 0 ⟨#[]⟩ (.slice none 0 0)) Try.zeroTm ?_); intro d1 hb hbel hsz; have HD1 := Lib.hid (And.intro hb hbel); clear hb hbel hsz)
    | ((with_reducible refine wpList_store_blk d1 rfl 24 (.tmp 8) (.tmp 21) rfl wr.heap.size 24 (tmC 0 0 0 ⟨#[]⟩ (.slice none 0 0)) (tmC ta.k ta.u ta.n ta.s (.slice aa ta.ks.length pa)) HD1.out.1 rfl rfl rfl (tmC_info _ _ _ _ _) (tmC_one _ _ _ _ _ _ _) ?_); intro d2 hb hc hs; have hbw : Below wr.heap.size wr d2 := below_ch HD1.out.2 hc (Nat.le_refl _) (fun k hk => by have e : k = wr.heap.size := hk; omega); have HD2 := Lib.hid (show Blk d2 wr.heap.size 24 (tmC ta.k ta.u ta.n ta.s (.slice aa ta.ks.length pa)) ∧ Below w.heap.size w d2 from ⟨hb, below_thn HW.out hbw (Nat.le_refl _)⟩); clear hb hc hs hbw)
    | (with_reducible refine wpList_load_any rfl 24 (.tmp 24) rfl b2 (o2 + j * 5) rfl (tmC tb.k tb.u tb.n tb.s (.slice ab tb.ks.length pb)) _ (rangeW_ch HRA.out.2 (Ch.of_below (S := fun _ => False) HD2.out.2 (Nat.le_refl _)) (fun h => h)) Try.underlying24 rfl (tmC_info _ _ _ _ _) ?_)
    | ((with_reducible refine wpList_alloc_blk d2 rfl 24 rfl (tmC 0 0 0 ⟨#[]⟩ (.slice none 0 0)) Try.zeroTm ?_); intro d3 hb hbel hsz; have HD3 := Lib.hid (And.intro hb hbel); clear hb hbel hsz)
    | ((with_reducible refine wpList_store_blk d3 rfl 24 (.tmp 9) (.tmp 25) rfl d2.heap.size 24 (tmC 0 0 0 ⟨#[]⟩ (.slice none 0 0)) (tmC tb.k tb.u tb.n tb.s (.slice ab tb.ks.length pb)) HD3.out.1 rfl rfl rfl (tmC_info _ _ _ _ _) (tmC_one _ _ _ _ _ _ _) ?_); intro d4 hb hc hs; have hbw : Below d2.heap.size d2 d4 := below_ch HD3.out.2 hc (Nat.le_refl _) (fun k hk => by have e : k = d2.heap.size := hk; omega); have HD4 := Lib.hid (show Blk d4 d2.heap.size 24 (tmC tb.k tb.u tb.n tb.s (.slice ab tb.ks.length pb)) ∧ Blk d4 wr.heap.size 24 (tmC ta.k ta.u ta.n ta.s (.slice aa ta.ks.length pa)) ∧ Below w.heap.size w d4 from ⟨hb, HD2.out.1.below hbw HD2.out.1.lt, below_thn HD2.out.2 hbw (Nat.le_refl _)⟩); clear hb hc hs hbw)
    | (with_reducible refine wpList_load_any rfl 24 (.tmp 8) rfl wr.heap.size 0 rfl (tmC ta.k ta.u ta.n ta.s (.slice aa ta.ks.length pa)) _ (rangeW_blk HD4.out.2.1) Try.underlying24 rfl (tmC_info _ _ _ _ _) ?_)
    | (with_reducible refine wpList_load_any rfl 24 (.tmp 9) rfl d2.heap.size 0 rfl (tmC tb.k tb.u tb.n tb.s (.slice ab tb.ks.length pb)) _ (rangeW_blk HD4.out.1) Try.underlying24 rfl (tmC_info _ _ _ _ _) ?_))
      have hx := HIH.out ta HMEM.out tb _ _ Fa Fb d4 (HTM.out.1.below HD4.out.2.2) (HTM.out.2.below HD4.out.2.2)
      obtain ⟨rb, hr⟩ : ∃ r, sameT ta tb = r := ⟨_, rfl⟩
      have HRB := Lib.hid hr
      rw [hr] at hx
      clear hr
      refine Calls.mono hx ?_
      clear hx
      rintro e' d5 ⟨rfl, hb⟩
      have HD5 := Lib.hid (below_thn HD4.out.2.2 hb (Nat.le_refl _))
      clear hb
      cases rb
      · have HE := Lib.hid (show R = false from by rw [← HQ2.out, sameL_cons, HRB.out, Bool.false_and])
        go_wp2_with fail
        go_ret
        exact ⟨by rw [HE.out]; rfl, HD5.out⟩
      · have HQ3 := Lib.hid (show sameL (xa.drop (j + 1)) (bs.drop (j + 1)) = R from by have h := HQ2.out; rw [sameL_cons, HRB.out, Bool.true_and] at h; exact h)
        go_wp2_with fail
        go_roundw
        case rel => exact ⟨j + 1, by go_num, by omega, HQ3, HD5⟩
        case measure => simp [intOf]; omega
    · have hge : ¬ (j : Int) < (m : Int) := by omega
      have HE := Lib.hid (show R = true from by rw [← HQ.out, List.drop_of_length_le (by rw [HM.out]; omega), List.drop_of_length_le (by rw [HN.out, ← HMN.out]; omega), sameL])
      go_wp2_with fail
      go_ret
      exact ⟨by rw [HE.out]; rfl, HW.out⟩


set_option maxRecDepth 100000 in
set_option maxHeartbeats 8000000 in
theorem same_any5 : ∀ (a : Tm), ∀ (b : Tm) (ca cb : List Value) (Fa Fb : Nat → Prop) (w : World), TmC Fa w ca a → TmC Fb w cb b → Calls Try.prog 14 #[.agg ca.toArray, .agg cb.toArray] w (fun e w' => e = .returned (.bool (sameT a b)) ∧ Below w.heap.size w w') := by
  refine Tm.ind fun k u n s ks ih b ca cb Fa Fb w ha hb => ?_
  obtain ⟨k', u', n', s', ks'⟩ := b
  obtain ⟨ao, c, rfl, -, -, hsa⟩ := ha.shape
  obtain ⟨bo, d, rfl, -, -, hsb⟩ := hb.shape
  simp only [Tm.k, Tm.u, Tm.n, Tm.s, Tm.ks] at hsa hsb ⊢
  have HIH := Lib.hid ih
  have HS := Lib.hid (And.intro hsa hsb)
  rw [sameT]
  clear ha hb ih hsa hsb
  obtain ⟨l, hl⟩ : ∃ l, ks.length = l := ⟨_, rfl⟩
  obtain ⟨m, hm⟩ : ∃ l, ks'.length = l := ⟨_, rfl⟩
  rw [hl, hm] at HS
  rw [hl, hm]
  clear hl hm
  obtain ⟨bk, hk⟩ : ∃ b, (k == k') = b := ⟨_, rfl⟩
  obtain ⟨bu, hu⟩ : ∃ b, (u == u') = b := ⟨_, rfl⟩
  obtain ⟨bn, hn⟩ : ∃ b, (n == n') = b := ⟨_, rfl⟩
  obtain ⟨bs, hs⟩ : ∃ b, (s.toList == s'.toList) = b := ⟨_, rfl⟩
  obtain ⟨R, hR⟩ : ∃ R, (bk && (bu && (bn && (bs && sameL ks ks')))) = R := ⟨_, rfl⟩
  rw [hk, hu, hn, hs, hR]
  have HR := Lib.hid hR
  clear hR
  have H0 := Lib.hid (Below.refl w.heap.size w)
  cases bk
  · skip
    go_enter Try.func14, Try.ntmps14
    go_wp2_with (first
    | ((with_reducible refine wpList_box_blk w rfl 24 (.tmp 0) rfl (tmC k u n s (.slice ao l c)) rfl ?_); intro a1 hb hbel hsz; have HA1 := Lib.hid (show Below w.heap.size w a1 ∧ Blk a1 w.heap.size 24 (tmC k u n s (.slice ao l c)) from ⟨below_thn H0.out hbel (Nat.le_refl _), hb⟩); clear hb hbel hsz)
    | ((with_reducible refine wpList_box_blk a1 rfl 24 (.tmp 1) rfl (tmC k' u' n' s' (.slice bo m d)) rfl ?_); intro a2 hb hbel hsz; have HA2 := Lib.hid (show Below w.heap.size w a2 ∧ Blk a2 w.heap.size 24 (tmC k u n s (.slice ao l c)) ∧ Blk a2 a1.heap.size 24 (tmC k' u' n' s' (.slice bo m d)) from ⟨below_thn HA1.out.1 hbel (Nat.le_refl _), HA1.out.2.below hbel HA1.out.2.lt, hb⟩); have c0 := HA2.out.2.1.cell 0; have d0 := HA2.out.2.2.cell 0; have c1 := HA2.out.2.1.cell 1; have d1 := HA2.out.2.2.cell 1; have c2 := HA2.out.2.1.cell 2; have d2 := HA2.out.2.2.cell 2; have c3 := HA2.out.2.1.cell 3; have d3 := HA2.out.2.2.cell 3; have c4 := HA2.out.2.1.cell 4; have d4 := HA2.out.2.2.cell 4; simp only [tmC, List.getElem?_cons_zero, List.getElem?_cons_succ] at c0 c1 c2 c3 c4 d0 d1 d2 d3 d4; clear hb hbel hsz))
    go_ret
    exact ⟨by rw [← HR.out]; rfl, HA2.out.1⟩
  cases bu
  · skip
    go_enter Try.func14, Try.ntmps14
    go_wp2_with (first
    | ((with_reducible refine wpList_box_blk w rfl 24 (.tmp 0) rfl (tmC k u n s (.slice ao l c)) rfl ?_); intro a1 hb hbel hsz; have HA1 := Lib.hid (show Below w.heap.size w a1 ∧ Blk a1 w.heap.size 24 (tmC k u n s (.slice ao l c)) from ⟨below_thn H0.out hbel (Nat.le_refl _), hb⟩); clear hb hbel hsz)
    | ((with_reducible refine wpList_box_blk a1 rfl 24 (.tmp 1) rfl (tmC k' u' n' s' (.slice bo m d)) rfl ?_); intro a2 hb hbel hsz; have HA2 := Lib.hid (show Below w.heap.size w a2 ∧ Blk a2 w.heap.size 24 (tmC k u n s (.slice ao l c)) ∧ Blk a2 a1.heap.size 24 (tmC k' u' n' s' (.slice bo m d)) from ⟨below_thn HA1.out.1 hbel (Nat.le_refl _), HA1.out.2.below hbel HA1.out.2.lt, hb⟩); have c0 := HA2.out.2.1.cell 0; have d0 := HA2.out.2.2.cell 0; have c1 := HA2.out.2.1.cell 1; have d1 := HA2.out.2.2.cell 1; have c2 := HA2.out.2.1.cell 2; have d2 := HA2.out.2.2.cell 2; have c3 := HA2.out.2.1.cell 3; have d3 := HA2.out.2.2.cell 3; have c4 := HA2.out.2.1.cell 4; have d4 := HA2.out.2.2.cell 4; simp only [tmC, List.getElem?_cons_zero, List.getElem?_cons_succ] at c0 c1 c2 c3 c4 d0 d1 d2 d3 d4; clear hb hbel hsz))
    go_ret
    exact ⟨by rw [← HR.out]; rfl, HA2.out.1⟩
  cases bn
  · skip
    go_enter Try.func14, Try.ntmps14
    go_wp2_with (first
    | ((with_reducible refine wpList_box_blk w rfl 24 (.tmp 0) rfl (tmC k u n s (.slice ao l c)) rfl ?_); intro a1 hb hbel hsz; have HA1 := Lib.hid (show Below w.heap.size w a1 ∧ Blk a1 w.heap.size 24 (tmC k u n s (.slice ao l c)) from ⟨below_thn H0.out hbel (Nat.le_refl _), hb⟩); clear hb hbel hsz)
    | ((with_reducible refine wpList_box_blk a1 rfl 24 (.tmp 1) rfl (tmC k' u' n' s' (.slice bo m d)) rfl ?_); intro a2 hb hbel hsz; have HA2 := Lib.hid (show Below w.heap.size w a2 ∧ Blk a2 w.heap.size 24 (tmC k u n s (.slice ao l c)) ∧ Blk a2 a1.heap.size 24 (tmC k' u' n' s' (.slice bo m d)) from ⟨below_thn HA1.out.1 hbel (Nat.le_refl _), HA1.out.2.below hbel HA1.out.2.lt, hb⟩); have c0 := HA2.out.2.1.cell 0; have d0 := HA2.out.2.2.cell 0; have c1 := HA2.out.2.1.cell 1; have d1 := HA2.out.2.2.cell 1; have c2 := HA2.out.2.1.cell 2; have d2 := HA2.out.2.2.cell 2; have c3 := HA2.out.2.1.cell 3; have d3 := HA2.out.2.2.cell 3; have c4 := HA2.out.2.1.cell 4; have d4 := HA2.out.2.2.cell 4; simp only [tmC, List.getElem?_cons_zero, List.getElem?_cons_succ] at c0 c1 c2 c3 c4 d0 d1 d2 d3 d4; clear hb hbel hsz))
    go_ret
    exact ⟨by rw [← HR.out]; rfl, HA2.out.1⟩
  cases bs
  · skip
    go_enter Try.func14, Try.ntmps14
    go_wp2_with (first
    | ((with_reducible refine wpList_box_blk w rfl 24 (.tmp 0) rfl (tmC k u n s (.slice ao l c)) rfl ?_); intro a1 hb hbel hsz; have HA1 := Lib.hid (show Below w.heap.size w a1 ∧ Blk a1 w.heap.size 24 (tmC k u n s (.slice ao l c)) from ⟨below_thn H0.out hbel (Nat.le_refl _), hb⟩); clear hb hbel hsz)
    | ((with_reducible refine wpList_box_blk a1 rfl 24 (.tmp 1) rfl (tmC k' u' n' s' (.slice bo m d)) rfl ?_); intro a2 hb hbel hsz; have HA2 := Lib.hid (show Below w.heap.size w a2 ∧ Blk a2 w.heap.size 24 (tmC k u n s (.slice ao l c)) ∧ Blk a2 a1.heap.size 24 (tmC k' u' n' s' (.slice bo m d)) from ⟨below_thn HA1.out.1 hbel (Nat.le_refl _), HA1.out.2.below hbel HA1.out.2.lt, hb⟩); have c0 := HA2.out.2.1.cell 0; have d0 := HA2.out.2.2.cell 0; have c1 := HA2.out.2.1.cell 1; have d1 := HA2.out.2.2.cell 1; have c2 := HA2.out.2.1.cell 2; have d2 := HA2.out.2.2.cell 2; have c3 := HA2.out.2.1.cell 3; have d3 := HA2.out.2.2.cell 3; have c4 := HA2.out.2.1.cell 4; have d4 := HA2.out.2.2.cell 4; simp only [tmC, List.getElem?_cons_zero, List.getElem?_cons_succ] at c0 c1 c2 c3 c4 d0 d1 d2 d3 d4; clear hb hbel hsz))
    go_ret
    exact ⟨by rw [← HR.out]; rfl, HA2.out.1⟩
  go_enter Try.func14, Try.ntmps14
  go_wp2_with (first
    | ((with_reducible refine wpList_box_blk w rfl 24 (.tmp 0) rfl (tmC k u n s (.slice ao l c)) rfl ?_); intro a1 hb hbel hsz; have HA1 := Lib.hid (show Below w.heap.size w a1 ∧ Blk a1 w.heap.size 24 (tmC k u n s (.slice ao l c)) from ⟨below_thn H0.out hbel (Nat.le_refl _), hb⟩); clear hb hbel hsz)
    | ((with_reducible refine wpList_box_blk a1 rfl 24 (.tmp 1) rfl (tmC k' u' n' s' (.slice bo m d)) rfl ?_); intro a2 hb hbel hsz; have HA2 := Lib.hid (show Below w.heap.size w a2 ∧ Blk a2 w.heap.size 24 (tmC k u n s (.slice ao l c)) ∧ Blk a2 a1.heap.size 24 (tmC k' u' n' s' (.slice bo m d)) from ⟨below_thn HA1.out.1 hbel (Nat.le_refl _), HA1.out.2.below hbel HA1.out.2.lt, hb⟩); have c0 := HA2.out.2.1.cell 0; have d0 := HA2.out.2.2.cell 0; have c1 := HA2.out.2.1.cell 1; have d1 := HA2.out.2.2.cell 1; have c2 := HA2.out.2.1.cell 2; have d2 := HA2.out.2.2.cell 2; have c3 := HA2.out.2.1.cell 3; have d3 := HA2.out.2.2.cell 3; have c4 := HA2.out.2.1.cell 4; have d4 := HA2.out.2.2.cell 4; simp only [tmC, List.getElem?_cons_zero, List.getElem?_cons_succ] at c0 c1 c2 c3 c4 d0 d1 d2 d3 d4; clear hb hbel hsz))
  have hx := eqf_any ks ks' _ _ Fa Fb a2 (HS.out.1.below HA2.out.1) (HS.out.2.below HA2.out.1) HIH.out
  refine Calls.mono hx ?_
  clear hx
  rintro e' a3 ⟨rfl, hb⟩
  have HB := Lib.hid (below_thn HA2.out.1 hb (Nat.le_refl _))
  clear hb
  have HE := Lib.hid (show R = sameL ks ks' from by rw [← HR.out]; rfl)
  go_wp2_with fail
  go_ret
  exact ⟨by rw [HE.out]; rfl, HB.out⟩


end Go.Proofs.Ytfenikoajadiaaa
