/-
  Layer 5: term.Encode, walked. Conditions: none.
-/
import Derived.Test.YtfenikoajadiaaaTmF
namespace Go.Proofs.Ytfenikoajadiaaa
open Go Go.RowKit
set_option linter.unusedSimpArgs false
set_option linter.unusedVariables false


mutual
def nodesT : Tm → Nat
  | .mk _ _ _ _ ks => 1 + nodesTL ks
def nodesTL : List Tm → Nat
  | [] => 0
  | t :: ts => nodesT t + nodesTL ts
end
theorem walkL_good : ∀ (ts : List Tm), (∀ t ∈ ts, ∀ d l, (walkM t d l).1 = true → okT t = true ∧ (walkM t d l).2 = l - nodesT t) → ∀ d l, (walkL ts d l).1 = true → okTL ts = true ∧ (walkL ts d l).2 = l - nodesTL ts
  | [], _, d, l, _ => by rw [walkL, okTL, nodesTL]; exact ⟨rfl, by simp⟩
  | t :: ts, ih, d, l, h => by
    rw [walkL_cons] at h ⊢
    rw [okTL, nodesTL, Bool.and_eq_true]
    by_cases hk : (walkM t d l).1 = true
    · rw [if_pos hk] at h ⊢
      have h1 := ih t List.mem_cons_self d l hk
      have h2 := walkL_good ts (fun t ht => ih t (List.mem_cons_of_mem _ ht)) d _ h
      refine ⟨⟨h1.1, h2.1⟩, ?_⟩
      have := h1.2; have := h2.2
      omega
    · rw [if_neg hk] at h; cases h
/-- what is walked well may be, and as many are counted as there are -/
theorem walkM_good : ∀ (t : Tm) (d l : Int), (walkM t d l).1 = true → okT t = true ∧ (walkM t d l).2 = l - nodesT t := by
  refine Tm.ind fun k u n s ks ih d l h => ?_
  rw [walkM] at h ⊢
  rw [okT, nodesT, Bool.and_eq_true]
  by_cases hk : l - 1 < 0 ∨ 60 < d ∨ plainB k u n s ks.length = false
  · rw [if_pos hk] at h; cases h
  · rw [if_neg hk] at h ⊢
    have := walkL_good ks ih (d + 1) (l - 1) h
    refine ⟨⟨?_, this.1⟩, by have := this.2; omega⟩
    cases hp : plainB k u n s ks.length with
    | true => rfl
    | false => exact (hk (.inr (.inr hp))).elim
theorem beF_length2 (n : Int) : (beF n 2).length = 2 := by rw [beF_length]
theorem headX_len {k u n : Int} {s : ByteArray} (h : s.size ≤ 64) (a b c : Bool) : (headX k u n s a b c).length ≤ 69 := by
  unfold headX
  simp only [List.length_append, List.length_cons, List.length_nil]
  have h1 : (if a = true then (s.size : Int) :: ints s else []).length ≤ 65 := by split <;> simp [ints_length]; omega
  have h2 : (if b = true then [u] else []).length ≤ 1 := by split <;> simp
  have h3 : (if c = true then beF n 2 else []).length ≤ 2 := by split; rw [beF_length2]; omega; simp
  omega
theorem bytesTL_len : ∀ (ts : List Tm), (∀ t ∈ ts, okT t = true → (bytesT t).length ≤ 69 * nodesT t) → okTL ts = true → (bytesTL ts).length ≤ 69 * nodesTL ts
  | [], _, _ => by rw [bytesTL]; simp
  | t :: ts, ih, h => by
    rw [okTL, Bool.and_eq_true] at h
    rw [bytesTL, nodesTL, List.length_append]
    have h1 := ih t List.mem_cons_self h.1
    have h2 := bytesTL_len ts (fun t ht => ih t (List.mem_cons_of_mem _ ht)) h.2
    omega
theorem bytesT_len : ∀ (t : Tm), okT t = true → (bytesT t).length ≤ 69 * nodesT t := by
  refine Tm.ind fun k u n s ks ih h => ?_
  rw [okT, Bool.and_eq_true] at h
  rw [bytesT, nodesT, List.length_append]
  have h1 := headX_len (k := k) (u := u) (n := n) (plainB_iff.1 h.1).ps (hasB k 1) (hasB k 2) (hasB k 4)
  have h2 := bytesTL_len ks ih h.2
  omega
theorem sizeT_good {t : Tm} (h : sizeT t ≠ 0) : okT t = true ∧ sizeT t = nodesT t ∧ nodesT t ≤ 1200 ∧ (bytesT t).length ≤ 82800 := by
  have h1 := sizeT_ok.1 h
  have h2 := walkM_good t 1 1200 h1
  have h3 : sizeT t = nodesT t := by unfold sizeT; rw [if_pos h1, h2.2]; omega
  have h4 := sizeT_bd t
  have h5 := bytesT_len t h2.1
  exact ⟨h2.1, h3, by omega, by omega⟩
/-- what Encode answers -/
def encT (t : Tm) : List Int := if sizeT t = 0 then [] else bytesT t
def EncP (w : World) (t : Tm) (e : Ending) (w' : World) : Prop := ∃ ao c, e = .returned (.tuple #[.slice ao (encT t).length c, .int .i64 (checkN t)]) ∧ w'.ownsRow w.heap.size 5 1 (.slice ao (encT t).length c) (encT t).length (ofK .u8 (encT t)) ∧ Below w.heap.size w w'

set_option maxRecDepth 100000 in
set_option maxHeartbeats 4000000 in
theorem encode_any (t : Tm) (cs : List Value) (F : Nat → Prop) (w : World) (ht : TmC F w cs t) : Calls Try.prog 12 #[.agg cs.toArray] w (EncP w t) := by
  have h1 := ht.old
  obtain ⟨ao, c, rfl, -, -, -⟩ := ht.shape
  clear ht
  have HT := Lib.hid h1
  obtain ⟨x, hx⟩ : ∃ x, sizeT t = x := ⟨_, rfl⟩
  have HX := Lib.hid hx
  clear h1 hx
  have H0 := Lib.hid (Below.refl w.heap.size w)

  by_cases h0 : x = 0
  · have HE := Lib.hid (show encT t = [] ∧ checkN t = 150 from by unfold encT checkN; rw [HX.out, if_pos h0, if_pos h0]; exact ⟨rfl, rfl⟩)
    have e1 : (x == 0) = true := by simpa using h0
    clear h0
    obtain ⟨E, hE⟩ : ∃ E, EncP w t = E := ⟨_, rfl⟩
    have HEE := Lib.hid hE
    rw [hE]
    clear hE
    generalize t.ks.length = m at HT ⊢
    generalize t.k = k at HT ⊢
    generalize t.u = u at HT ⊢
    generalize t.n = n at HT ⊢
    generalize t.s = s at HT ⊢
    go_enter Try.func12, Try.ntmps12
    go_wp2_with (first
    | ((with_reducible refine wpList_box_blk w rfl 24 (.tmp 0) rfl (tmC k u n s (.slice ao m c)) rfl ?_); intro a1 hb hbel hsz; have HA1 := Lib.hid (show Below w.heap.size w a1 ∧ Blk a1 w.heap.size 24 (tmC k u n s (.slice ao m c)) from ⟨below_thn H0.out hbel (Nat.le_refl _), hb⟩); clear hb hbel hsz)
    | (with_reducible refine wpList_load_any rfl 24 (.tmp 1) rfl w.heap.size 0 rfl (tmC k u n s (.slice ao m c)) _ (rangeW_blk HA1.out.2) Try.underlying24 rfl (tmC_info _ _ _ _ _) ?_))
    have hx := size_any t _ (· < w.heap.size) a1 (HT.out.below HA1.out.1)
    rw [HX.out] at hx
    refine Calls.mono hx ?_
    clear hx
    rintro e' a2 ⟨rfl, hb⟩
    have HB := Lib.hid (below_thn HA1.out.1 hb (Nat.le_refl _))
    clear hb
    go_wp2_with fail
    rw [← HEE.out]
    unfold EncP
    rw [HE.out.1, HE.out.2]
    exact ⟨none, 0, rfl, World.ownsRow_nil _ _ _ _, HB.out⟩
  · have HE := Lib.hid (show encT t = bytesT t ∧ checkN t = 0 from by unfold encT checkN; rw [HX.out, if_neg h0, if_neg h0]; exact ⟨rfl, rfl⟩)
    have HG := Lib.hid (sizeT_good (t := t) (by rw [HX.out]; exact h0))
    have e1 : (x == 0) = false := by simpa using h0
    clear h0
    obtain ⟨E, hE⟩ : ∃ E, EncP w t = E := ⟨_, rfl⟩
    have HEE := Lib.hid hE
    rw [hE]
    clear hE
    generalize t.ks.length = m at HT ⊢
    generalize t.k = k at HT ⊢
    generalize t.u = u at HT ⊢
    generalize t.n = n at HT ⊢
    generalize t.s = s at HT ⊢
    go_enter Try.func12, Try.ntmps12
    go_wp2_with (first
    | ((with_reducible refine wpList_box_blk w rfl 24 (.tmp 0) rfl (tmC k u n s (.slice ao m c)) rfl ?_); intro a1 hb hbel hsz; have HA1 := Lib.hid (show Below w.heap.size w a1 ∧ Blk a1 w.heap.size 24 (tmC k u n s (.slice ao m c)) from ⟨below_thn H0.out hbel (Nat.le_refl _), hb⟩); clear hb hbel hsz)
    | (with_reducible refine wpList_load_any rfl 24 (.tmp 1) rfl w.heap.size 0 rfl (tmC k u n s (.slice ao m c)) _ (rangeW_blk HA1.out.2) Try.underlying24 rfl (tmC_info _ _ _ _ _) ?_))
    have hx := size_any t _ (· < w.heap.size) a1 (HT.out.below HA1.out.1)
    rw [HX.out] at hx
    refine Calls.mono hx ?_
    clear hx
    rintro e' a2 ⟨rfl, hb⟩
    have HB := Lib.hid (show Below w.heap.size w a2 ∧ Blk a2 w.heap.size 24 (tmC k u n s (.slice ao m c)) from ⟨below_thn HA1.out.1 hb (Nat.le_refl _), HA1.out.2.below hb HA1.out.2.lt⟩)
    clear hb
    go_wp2_with (first | (with_reducible refine wpList_load_any rfl 24 (.tmp 1) rfl w.heap.size 0 rfl (tmC k u n s (.slice ao m c)) _ (rangeW_blk HB.out.2) Try.underlying24 rfl (tmC_info _ _ _ _ _) ?_))
    have hx := put_any t _ (· < w.heap.size) a2.heap.size (.slice none 0 0) [] a2 HG.out.1 (HT.out.below HB.out.1) (fun j _ e => by cases e) (Nat.le_refl _) (World.ownsRow_nil _ _ _ _) (by have := HG.out.2.2.2; simp; omega)
    rw [List.nil_append] at hx
    refine Calls.mono hx ?_
    clear hx
    rintro e' a3 ⟨o1, c1, rfl, hrow, hgw⟩
    have HR := Lib.hid (And.intro hrow hgw.nil)
    clear hrow hgw
    generalize (bytesT t).length = N at HR ⊢
    go_wp2_with fail
    rw [← HEE.out]
    unfold EncP
    rw [HE.out.1, HE.out.2]
    have hN : (bytesT t).length = N := by have h := HR.out.1.1; rw [length_ofK] at h; omega
    rw [hN]
    exact ⟨o1, c1, rfl, own_low HR.out.1 HB.out.1.size, below_thn HB.out.1 HR.out.2 (Nat.le_refl _)⟩


end Go.Proofs.Ytfenikoajadiaaa
