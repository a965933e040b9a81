/-
  Layer 5: the reader of terms, where it fails, walked. Conditions: bytes.
-/
import Derived.Test.YtfenikoajadiaaaTmBa
import Derived.Test.YtfenikoajadiaaaRgP
namespace Go.Proofs.Ytfenikoajadiaaa
open Go Go.RowKit
set_option linter.unusedSimpArgs false
set_option linter.unusedVariables false


/-- what is told by a panic -/
def wrongV (e : Int) : Value := .iface 66 (.agg #[.int .i64 e])
def BadP (w : World) (gr b : Nat) (e : Int) (en : Ending) (w' : World) : Prop := en = .panicked [{ v := wrongV e, recovered := false }] ∧ Ch (fun k => k = gr ∨ k = b) w w'
/-- a reader of terms -/
structure TmX (w0 : World) (gr b rr : Nat) (l : Int) (bs : List Int) (why : Int) (W : World) : Prop where
  rd : Rd W b rr bs why
  R : Blk W gr 64 [.pointer (some ⟨b, 0, none⟩), .int .i64 l]
  ch : Ch (fun k => k = gr ∨ k = b) w0 W
  n1 : gr ≠ b
  n2 : rr ≠ gr
  l1 : gr < w0.heap.size
  l2 : b < w0.heap.size
  l3 : rr < w0.heap.size
structure TmY (w0 : World) (gr b rr g5 : Nat) (C5 : List Value) (l : Int) (bs : List Int) (why : Int) (W : World) : Prop where
  I : TmX w0 gr b rr l bs why W
  T : Blk W g5 24 C5
  g : w0.heap.size ≤ g5
section
variable {w0 W W' : World} {gr b rr g5 : Nat} {l l' : Int} {bs bs' : List Int} {why why' : Int} {C5 : List Value}
theorem TmX.low (h : TmX w0 gr b rr l bs why W) (hb : Below W.heap.size W W') : TmX w0 gr b rr l bs why W' :=
  ⟨h.rd.keep (Ch.of_below (S := fun _ => False) hb (Nat.le_refl _)) (fun h => h) (fun h => h), h.R.below hb h.R.lt, h.ch.trans (Ch.of_below hb (Nat.le_refl _)), h.n1, h.n2, h.l1, h.l2, h.l3⟩
theorem TmX.all (h : TmX w0 gr b rr l bs why W) (hr : Rd W' b rr bs' why') (hR : Blk W' gr 64 [.pointer (some ⟨b, 0, none⟩), .int .i64 l']) (hc : Ch (fun k => k = gr ∨ k = b) W W') : TmX w0 gr b rr l' bs' why' W' :=
  ⟨hr, hR, h.ch.trans hc, h.n1, h.n2, h.l1, h.l2, h.l3⟩
theorem TmX.read (h : TmX w0 gr b rr l bs why W) (hr : Rd W' b rr bs' why') (hc : Ch (· = b) W W') : TmX w0 gr b rr l bs' why' W' :=
  h.all hr (h.R.keep hc (fun e => h.n1 e)) (hc.mono fun k hk => .inr hk)
theorem TmX.setR (h : TmX w0 gr b rr l bs why W) (hR : Blk W' gr 64 [.pointer (some ⟨b, 0, none⟩), .int .i64 l']) (hc : Ch (· = gr) W W') : TmX w0 gr b rr l' bs why W' :=
  h.all (h.rd.keep hc (fun e => h.n1 e.symm) (fun e => h.n2 e)) hR (hc.mono fun k hk => .inl hk)
theorem TmX.off (h : TmX w0 gr b rr l bs why W) (hc : Ch (· = g5) W W') (h4 : w0.heap.size ≤ g5) : TmX w0 gr b rr l bs why W' := by
  have h1 := h.l1; have h2 := h.l2; have h3 := h.l3
  exact ⟨h.rd.keep hc (fun e => by have e : b = g5 := e; omega) (fun e => by have e : rr = g5 := e; omega), h.R.keep hc (fun e => by have e : gr = g5 := e; omega), h.ch.trans' hc (fun i hi e => by have e : i = g5 := e; omega), h.n1, h.n2, h.l1, h.l2, h.l3⟩
theorem TmX.rs (h : TmX w0 gr b rr l bs why W) : rr < W.heap.size := Nat.lt_of_lt_of_le h.l3 h.ch.size
theorem TmY.low (h : TmY w0 gr b rr g5 C5 l bs why W) (hb : Below W.heap.size W W') : TmY w0 gr b rr g5 C5 l bs why W' := ⟨h.I.low hb, h.T.below hb h.T.lt, h.g⟩
theorem TmY.ne (h : TmY w0 gr b rr g5 C5 l bs why W) : g5 ≠ gr ∧ g5 ≠ b := by have h1 := h.I.l1; have h2 := h.I.l2; have h4 := h.g; omega
theorem TmY.all (h : TmY w0 gr b rr g5 C5 l bs why W) (hr : Rd W' b rr bs' why') (hR : Blk W' gr 64 [.pointer (some ⟨b, 0, none⟩), .int .i64 l']) (hc : Ch (fun k => k = gr ∨ k = b) W W') : TmY w0 gr b rr g5 C5 l' bs' why' W' :=
  ⟨h.I.all hr hR hc, h.T.keep hc (fun e => by have := h.ne; omega), h.g⟩
theorem TmY.read (h : TmY w0 gr b rr g5 C5 l bs why W) (hr : Rd W' b rr bs' why') (hc : Ch (· = b) W W') : TmY w0 gr b rr g5 C5 l bs' why' W' := ⟨h.I.read hr hc, h.T.keep hc (fun e => h.ne.2 e), h.g⟩
theorem TmY.setR (h : TmY w0 gr b rr g5 C5 l bs why W) (hR : Blk W' gr 64 [.pointer (some ⟨b, 0, none⟩), .int .i64 l']) (hc : Ch (· = gr) W W') : TmY w0 gr b rr g5 C5 l' bs why W' := ⟨h.I.setR hR hc, h.T.keep hc (fun e => h.ne.1 e), h.g⟩
theorem TmY.setT {C6 : List Value} (h : TmY w0 gr b rr g5 C5 l bs why W) (hT : Blk W' g5 24 C6) (hc : Ch (· = g5) W W') : TmY w0 gr b rr g5 C6 l bs why W' := ⟨h.I.off hc h.g, hT, h.g⟩
end
theorem need_term (gr b rr : Nat) (l : Int) (bs : List Int) (W : World) (hr : Rd W b rr bs 0) (hR : Blk W gr 64 [.pointer (some ⟨b, 0, none⟩), .int .i64 l]) :
    Calls Try.prog 58 #[.pointer (some ⟨gr, 0, none⟩), .bool false] W (fun e w' => e = .panicked [{ v := wrongV 150, recovered := false }] ∧ W = w') := by
  have c0 := hR.cell 0
  simp only [List.getElem?_cons_zero] at c0
  have HE := Lib.hid (err_any b rr bs 0 W hr)
  clear hr hR
  go_enter Try.func58, Try.ntmps58
  go_wp2_with fail
  refine HE.out.mono ?_
  rintro e' w' ⟨rfl, rfl⟩
  go_wp2_with fail
  exact ⟨rfl, rfl, rfl⟩
theorem need_short (gr b rr : Nat) (l : Int) (bs : List Int) (ok : Bool) (W : World) (hr : Rd W b rr bs 7) (hR : Blk W gr 64 [.pointer (some ⟨b, 0, none⟩), .int .i64 l]) :
    Calls Try.prog 58 #[.pointer (some ⟨gr, 0, none⟩), .bool ok] W (fun e w' => e = .panicked [{ v := wrongV 7, recovered := false }] ∧ W = w') := by
  have c0 := hR.cell 0
  simp only [List.getElem?_cons_zero] at c0
  have HE := Lib.hid (err_any b rr bs 7 W hr)
  clear hr hR
  go_enter Try.func58, Try.ntmps58
  go_wp2_with fail
  refine HE.out.mono ?_
  rintro e' w' ⟨rfl, rfl⟩
  go_wp2_with fail
  exact ⟨rfl, rfl, rfl⟩
theorem u8_nil0 (b rr : Nat) (W : World) (hr : Rd W b rr [] 0) (hl : rr < W.heap.size) :
    Calls Try.prog 56 #[.pointer (some ⟨b, 0, none⟩)] W (fun e w' => e = .returned (.int .u8 0) ∧ Rd w' b rr [] 7 ∧ Ch (· = b) W w') :=
  u8_of b rr [] 0 W 0 [] 7 hr hl (fun _ h => (by cases h)) rfl rfl rfl
theorem u16_short (b rr : Nat) (bs : List Int) (W : World) (hr : Rd W b rr bs 0) (hl : rr < W.heap.size) (hb : AllB bs) (hs : bs.length < 2) :
    Calls Try.prog 62 #[.pointer (some ⟨b, 0, none⟩)] W (fun e w' => e = .returned (.int .u16 0) ∧ Rd w' b rr bs 7 ∧ Ch (· = b) W w') := by
  have ht : takeF bs 0 2 = (bs, 7, []) := takeF_short (by omega) (by omega)
  refine u16_of b rr bs 0 W 0 bs 7 hr hl hb ?_ ?_ ?_ <;> rw [ht]
  rfl
theorem textD_bad {b : Bool} {bs : List Int} {e : Int} (h : textD b bs = .error e) : b = true ∧ (bs = [] ∧ e = 7 ∨ ∃ n q, bs = n :: q ∧ (64 < n ∧ e = 150 ∨ n ≤ 64 ∧ (q.length : Int) < n ∧ e = 7)) := by
  cases b
  · simp [textD] at h
  · refine ⟨rfl, ?_⟩
    cases bs with
    | nil => simp [textD] at h; exact .inl ⟨rfl, h.symm⟩
    | cons n q =>
      refine .inr ⟨n, q, rfl, ?_⟩
      rw [textD] at h
      split at h
      · simp at h; exact .inl ⟨by assumption, h.symm⟩
      · split at h
        · simp at h; exact .inr ⟨by omega, by assumption, h.symm⟩
        · cases h
theorem userD_bad {b : Bool} {bs : List Int} {e : Int} (h : userD b bs = .error e) : b = true ∧ (bs = [] ∧ e = 7 ∨ ∃ u q, bs = u :: q ∧ knownB u = false ∧ e = 150) := by
  cases b
  · simp [userD] at h
  · refine ⟨rfl, ?_⟩
    cases bs with
    | nil => simp [userD] at h; exact .inl ⟨rfl, h.symm⟩
    | cons n q =>
      refine .inr ⟨n, q, rfl, ?_⟩
      rw [userD] at h
      split at h
      · cases h
      · simp at h; exact ⟨by simpa using ‹¬ knownB n = true›, h.symm⟩
theorem numD_bad {b : Bool} {bs : List Int} {e : Int} (h : numD b bs = .error e) : b = true ∧ bs.length < 2 ∧ e = 7 := by
  cases b
  · simp [numD] at h
  · match bs, h with
    | [], h => simp [numD] at h; exact ⟨rfl, by simp, h.symm⟩
    | [_], h => simp [numD] at h; exact ⟨rfl, by simp, h.symm⟩
    | x :: y :: q, h => simp [numD] at h
theorem has_kinds {k : Int} (h : 1 ≤ k ∧ k ≤ 8) : (hasB k 2 = true → hasB k 1 = false) ∧ (hasB k 4 = true → hasB k 2 = true) ∧ (0 < kidsN k → hasB k 1 = false) := by
  obtain rfl | rfl | rfl | rfl | rfl | rfl | rfl | rfl : k = 1 ∨ k = 2 ∨ k = 3 ∨ k = 4 ∨ k = 5 ∨ k = 6 ∨ k = 7 ∨ k = 8 := by omega
  all_goals decide

set_option maxRecDepth 100000 in
set_option maxHeartbeats 8000000 in
theorem term_none (d l : Int) (gr b rr : Nat) (w : World) (hR : Blk w gr 64 [.pointer (some ⟨b, 0, none⟩), .int .i64 l]) (hn1 : gr ≠ b) (hn2 : rr ≠ gr) (hrr : rr < w.heap.size) (hl0 : 0 ≤ l) (hl1 : l ≤ 1200) (hd1 : 1 ≤ d) (hd2 : d ≤ 61) (hrd : Rd w b rr [] 0) : Calls Try.prog 43 #[.pointer (some ⟨gr, 0, none⟩), .int .i64 d] w (BadP w gr b 7) := by
  have HI := Lib.hid (show TmX w gr b rr (l) ([]) (0) w from ⟨hrd, hR, Ch.refl _ _, hn1, hn2, hR.lt, hrd.lt, hrr⟩)
  have HFD := Lib.hid (show ∀ w', Calls Try.prog 57 #[.int .i64 0] w' (fun e w'' => e = .returned (.int .i64 0) ∧ w' = w'') from fun w' => fields_any 0 w')
  clear hrd hR hn1 hn2 hrr
  go_enter Try.func43, Try.ntmps43
  go_wp2_with (first
    | ((with_reducible refine wpList_alloc_blk w rfl 24 rfl (tmC 0 0 0 ⟨#[]⟩ (.slice none 0 0)) Try.zeroTm ?_); intro a0 hb hbel hsz; have I0 := HI.out.low hbel; have c0 := I0.R.cell 0; simp only [List.getElem?_cons_zero] at c0; clear hb hbel hsz))
  refine (u8_nil0 b rr a0 I0.rd I0.rs).mono ?_
  rintro e' a1 ⟨rfl, hrd, hc⟩
  have I1 := I0.read hrd hc
  clear hrd hc c0 I0
  go_wp2_with (first
    | ((with_reducible refine wpList_buildKind rfl (.tmp 13) rfl (0) rfl ?_))
    | ((with_reducible refine wpList_alloc_blk a1 rfl 24 rfl (tmC 0 0 0 ⟨#[]⟩ (.slice none 0 0)) Try.zeroTm ?_); intro a2 hb hbel hsz; have I2 := I1.low hbel; have HB2 := Lib.hid hb; clear hb hbel hsz)
    | ((with_reducible refine wpList_store_blk a2 rfl 24 (.tmp 5) (.tmp 14) rfl a1.heap.size 24 (tmC 0 0 0 ⟨#[]⟩ (.slice none 0 0)) (tmC 0 0 0 ⟨#[]⟩ (.slice none 0 0)) HB2.out rfl rfl rfl (tmC_info _ _ _ _ _) (tmC_one _ _ _ _ _ _ _) ?_); intro a3 hb hc hs; have J3 : TmY w gr b rr a1.heap.size (tmC 0 0 0 ⟨#[]⟩ (.slice none 0 0)) (l) ([]) (7) a3 := ⟨I2.off hc I1.ch.size, hb, I1.ch.size⟩; have c5 := J3.T.cell 0; simp only [tmC, List.getElem?_cons_zero, List.getElem?_cons_succ] at c5; clear hb hc hs))
  refine (HFD.out a3).mono ?_
  rintro e' w' ⟨rfl, rfl⟩
  clear I1 I2 HB2 c5
  generalize a1.heap.size = g5 at J3 ⊢
  have cl0 := J3.I.R.cell 1
  simp only [List.getElem?_cons_zero, List.getElem?_cons_succ] at cl0
  go_wp2_with (first
    | ((with_reducible refine wpList_store1 a3 rfl 3 (.tmp 24) (.tmp 22) rfl gr 1 64 [.pointer (some ⟨b, 0, none⟩), .int .i64 l] J3.I.R rfl (.int .i64 (l - 1)) rfl (by simp) Try.sizeInt1 rfl rfl ?_); intro a4 hb hc hs; have J4 := J3.setR hb hc; have cl := J4.I.R.cell 1; simp only [List.getElem?_cons_zero, List.getElem?_cons_succ] at cl; clear hb hc hs))
  clear cl0
  refine (need_short gr b rr _ _ _ a4 J4.I.rd J4.I.R).mono ?_
  rintro e' w' ⟨rfl, rfl⟩
  exact ⟨rfl, rfl, J4.I.ch⟩

set_option maxRecDepth 100000 in
set_option maxHeartbeats 8000000 in
theorem term_first (k : Int) (r : List Int) (d l : Int) (gr b rr : Nat) (w : World) (hR : Blk w gr 64 [.pointer (some ⟨b, 0, none⟩), .int .i64 l]) (hn1 : gr ≠ b) (hn2 : rr ≠ gr) (hrr : rr < w.heap.size) (hl0 : 0 ≤ l) (hl1 : l ≤ 1200) (hd1 : 1 ≤ d) (hd2 : d ≤ 61) (hkb : 0 ≤ k ∧ k ≤ 255) (hAB : AllB (k :: r)) (hrd : Rd w b rr (k :: r) 0) (hbad : fieldsF k = 0 ∨ l - 1 < 0 ∨ 60 < d) : Calls Try.prog 43 #[.pointer (some ⟨gr, 0, none⟩), .int .i64 d] w (BadP w gr b 150) := by
  have HI := Lib.hid (show TmX w gr b rr (l) (k :: r) (0) w from ⟨hrd, hR, Ch.refl _ _, hn1, hn2, hR.lt, hrd.lt, hrr⟩)
  have hw1 : wrap64 k = k := by have := hkb; unfold wrap64; omega
  have hk8 : IntKind.u8.wrap k = k := wrap_u8 (by have := hkb; omega)
  have HFD := Lib.hid (fields_any k)
  have HAB := Lib.hid hAB
  obtain ⟨f, hf⟩ : ∃ f, fieldsF k = f := ⟨_, rfl⟩
  rw [hf] at HFD hbad
  clear hrd hR hn1 hn2 hrr hf hAB hkb
  have hz : (f != 0) = false ∨ (f != 0) = true ∧ decide (0 ≤ l - 1) = false ∨ (f != 0) = true ∧ decide (0 ≤ l - 1) = true ∧ decide (d ≤ 60) = false := by
    by_cases h1 : f = 0
    · exact .inl (by simpa using h1)
    · by_cases h2 : 0 ≤ l - 1
      · exact .inr (.inr ⟨by simpa using h1, by simpa using h2, by simp; omega⟩)
      · exact .inr (.inl ⟨by simpa using h1, by simpa using h2⟩)
  clear hbad
  have hb1 : decide (0 ≤ l - 1) = decide (1 ≤ l) := by apply decide_eq_decide.2; omega
  have HB1 := Lib.hid hb1
  clear hb1
  rcases hz with g0 | ⟨g0, g1⟩ | ⟨g0, g1, g2⟩
  · skip
    go_enter Try.func43, Try.ntmps43
    go_wp2_with (first
    | ((with_reducible refine wpList_alloc_blk w rfl 24 rfl (tmC 0 0 0 ⟨#[]⟩ (.slice none 0 0)) Try.zeroTm ?_); intro a0 hb hbel hsz; have I0 := HI.out.low hbel; have c0 := I0.R.cell 0; simp only [List.getElem?_cons_zero] at c0; clear hb hbel hsz))
    refine (u8_cons b rr k r a0 I0.rd I0.rs HAB.out).mono ?_
    rintro e' a1 ⟨rfl, hrd, hc⟩
    have I1 := I0.read hrd hc
    clear hrd hc c0 I0
    go_wp2_with (first
    | ((with_reducible refine wpList_buildKind rfl (.tmp 13) rfl (k) rfl ?_))
    | ((with_reducible refine wpList_alloc_blk a1 rfl 24 rfl (tmC 0 0 0 ⟨#[]⟩ (.slice none 0 0)) Try.zeroTm ?_); intro a2 hb hbel hsz; have I2 := I1.low hbel; have HB2 := Lib.hid hb; clear hb hbel hsz)
    | ((with_reducible refine wpList_store_blk a2 rfl 24 (.tmp 5) (.tmp 14) rfl a1.heap.size 24 (tmC 0 0 0 ⟨#[]⟩ (.slice none 0 0)) (tmC k 0 0 ⟨#[]⟩ (.slice none 0 0)) HB2.out rfl rfl rfl (tmC_info _ _ _ _ _) (tmC_one _ _ _ _ _ _ _) ?_); intro a3 hb hc hs; have J3 : TmY w gr b rr a1.heap.size (tmC k 0 0 ⟨#[]⟩ (.slice none 0 0)) (l) (r) (0) a3 := ⟨I2.off hc I1.ch.size, hb, I1.ch.size⟩; have c5 := J3.T.cell 0; simp only [tmC, List.getElem?_cons_zero, List.getElem?_cons_succ] at c5; clear hb hc hs))
    refine (HFD.out a3).mono ?_
    rintro e' w' ⟨rfl, rfl⟩
    clear I1 I2 HB2 c5
    generalize a1.heap.size = g5 at J3 ⊢
    have cl0 := J3.I.R.cell 1
    simp only [List.getElem?_cons_zero, List.getElem?_cons_succ] at cl0
    go_wp2_with (first
    | ((with_reducible refine wpList_store1 a3 rfl 3 (.tmp 24) (.tmp 22) rfl gr 1 64 [.pointer (some ⟨b, 0, none⟩), .int .i64 l] J3.I.R rfl (.int .i64 (l - 1)) rfl (by simp) Try.sizeInt1 rfl rfl ?_); intro a4 hb hc hs; have J4 := J3.setR hb hc; have cl := J4.I.R.cell 1; simp only [List.getElem?_cons_zero, List.getElem?_cons_succ] at cl; clear hb hc hs))
    clear cl0
    refine (need_term gr b rr _ _ a4 J4.I.rd J4.I.R).mono ?_
    rintro e' w' ⟨rfl, rfl⟩
    exact ⟨rfl, rfl, J4.I.ch⟩
  · skip
    have g3 := HB1.out.symm.trans g1
    go_enter Try.func43, Try.ntmps43
    go_wp2_with (first
    | ((with_reducible refine wpList_alloc_blk w rfl 24 rfl (tmC 0 0 0 ⟨#[]⟩ (.slice none 0 0)) Try.zeroTm ?_); intro a0 hb hbel hsz; have I0 := HI.out.low hbel; have c0 := I0.R.cell 0; simp only [List.getElem?_cons_zero] at c0; clear hb hbel hsz))
    refine (u8_cons b rr k r a0 I0.rd I0.rs HAB.out).mono ?_
    rintro e' a1 ⟨rfl, hrd, hc⟩
    have I1 := I0.read hrd hc
    clear hrd hc c0 I0
    go_wp2_with (first
    | ((with_reducible refine wpList_buildKind rfl (.tmp 13) rfl (k) rfl ?_))
    | ((with_reducible refine wpList_alloc_blk a1 rfl 24 rfl (tmC 0 0 0 ⟨#[]⟩ (.slice none 0 0)) Try.zeroTm ?_); intro a2 hb hbel hsz; have I2 := I1.low hbel; have HB2 := Lib.hid hb; clear hb hbel hsz)
    | ((with_reducible refine wpList_store_blk a2 rfl 24 (.tmp 5) (.tmp 14) rfl a1.heap.size 24 (tmC 0 0 0 ⟨#[]⟩ (.slice none 0 0)) (tmC k 0 0 ⟨#[]⟩ (.slice none 0 0)) HB2.out rfl rfl rfl (tmC_info _ _ _ _ _) (tmC_one _ _ _ _ _ _ _) ?_); intro a3 hb hc hs; have J3 : TmY w gr b rr a1.heap.size (tmC k 0 0 ⟨#[]⟩ (.slice none 0 0)) (l) (r) (0) a3 := ⟨I2.off hc I1.ch.size, hb, I1.ch.size⟩; have c5 := J3.T.cell 0; simp only [tmC, List.getElem?_cons_zero, List.getElem?_cons_succ] at c5; clear hb hc hs))
    refine (HFD.out a3).mono ?_
    rintro e' w' ⟨rfl, rfl⟩
    clear I1 I2 HB2 c5
    generalize a1.heap.size = g5 at J3 ⊢
    have cl0 := J3.I.R.cell 1
    simp only [List.getElem?_cons_zero, List.getElem?_cons_succ] at cl0
    go_wp2_with (first
    | ((with_reducible refine wpList_store1 a3 rfl 3 (.tmp 24) (.tmp 22) rfl gr 1 64 [.pointer (some ⟨b, 0, none⟩), .int .i64 l] J3.I.R rfl (.int .i64 (l - 1)) rfl (by simp) Try.sizeInt1 rfl rfl ?_); intro a4 hb hc hs; have J4 := J3.setR hb hc; have cl := J4.I.R.cell 1; simp only [List.getElem?_cons_zero, List.getElem?_cons_succ] at cl; clear hb hc hs))
    clear cl0
    refine (need_term gr b rr _ _ a4 J4.I.rd J4.I.R).mono ?_
    rintro e' w' ⟨rfl, rfl⟩
    exact ⟨rfl, rfl, J4.I.ch⟩
  · skip
    have g3 := HB1.out.symm.trans g1
    go_enter Try.func43, Try.ntmps43
    go_wp2_with (first
    | ((with_reducible refine wpList_alloc_blk w rfl 24 rfl (tmC 0 0 0 ⟨#[]⟩ (.slice none 0 0)) Try.zeroTm ?_); intro a0 hb hbel hsz; have I0 := HI.out.low hbel; have c0 := I0.R.cell 0; simp only [List.getElem?_cons_zero] at c0; clear hb hbel hsz))
    refine (u8_cons b rr k r a0 I0.rd I0.rs HAB.out).mono ?_
    rintro e' a1 ⟨rfl, hrd, hc⟩
    have I1 := I0.read hrd hc
    clear hrd hc c0 I0
    go_wp2_with (first
    | ((with_reducible refine wpList_buildKind rfl (.tmp 13) rfl (k) rfl ?_))
    | ((with_reducible refine wpList_alloc_blk a1 rfl 24 rfl (tmC 0 0 0 ⟨#[]⟩ (.slice none 0 0)) Try.zeroTm ?_); intro a2 hb hbel hsz; have I2 := I1.low hbel; have HB2 := Lib.hid hb; clear hb hbel hsz)
    | ((with_reducible refine wpList_store_blk a2 rfl 24 (.tmp 5) (.tmp 14) rfl a1.heap.size 24 (tmC 0 0 0 ⟨#[]⟩ (.slice none 0 0)) (tmC k 0 0 ⟨#[]⟩ (.slice none 0 0)) HB2.out rfl rfl rfl (tmC_info _ _ _ _ _) (tmC_one _ _ _ _ _ _ _) ?_); intro a3 hb hc hs; have J3 : TmY w gr b rr a1.heap.size (tmC k 0 0 ⟨#[]⟩ (.slice none 0 0)) (l) (r) (0) a3 := ⟨I2.off hc I1.ch.size, hb, I1.ch.size⟩; have c5 := J3.T.cell 0; simp only [tmC, List.getElem?_cons_zero, List.getElem?_cons_succ] at c5; clear hb hc hs))
    refine (HFD.out a3).mono ?_
    rintro e' w' ⟨rfl, rfl⟩
    clear I1 I2 HB2 c5
    generalize a1.heap.size = g5 at J3 ⊢
    have cl0 := J3.I.R.cell 1
    simp only [List.getElem?_cons_zero, List.getElem?_cons_succ] at cl0
    go_wp2_with (first
    | ((with_reducible refine wpList_store1 a3 rfl 3 (.tmp 24) (.tmp 22) rfl gr 1 64 [.pointer (some ⟨b, 0, none⟩), .int .i64 l] J3.I.R rfl (.int .i64 (l - 1)) rfl (by simp) Try.sizeInt1 rfl rfl ?_); intro a4 hb hc hs; have J4 := J3.setR hb hc; have cl := J4.I.R.cell 1; simp only [List.getElem?_cons_zero, List.getElem?_cons_succ] at cl; clear hb hc hs))
    clear cl0
    refine (need_term gr b rr _ _ a4 J4.I.rd J4.I.R).mono ?_
    rintro e' w' ⟨rfl, rfl⟩
    exact ⟨rfl, rfl, J4.I.ch⟩

set_option maxRecDepth 100000 in
set_option maxHeartbeats 8000000 in
theorem term_text (k : Int) (r : List Int) (d l e : Int) (gr b rr : Nat) (w : World) (hR : Blk w gr 64 [.pointer (some ⟨b, 0, none⟩), .int .i64 l]) (hn1 : gr ≠ b) (hn2 : rr ≠ gr) (hrr : rr < w.heap.size) (hl0 : 0 ≤ l) (hl1 : l ≤ 1200) (hd1 : 1 ≤ d) (hd2 : d ≤ 61) (hkb : 1 ≤ k ∧ k ≤ 8) (hl2 : 0 ≤ l - 1) (hd3 : d ≤ 60) (hAB : AllB (k :: r)) (hlen : r.length ≤ 1000000) (hrd : Rd w b rr (k :: r) 0) (he : textD (hasB k 1) r = .error e) : Calls Try.prog 43 #[.pointer (some ⟨gr, 0, none⟩), .int .i64 d] w (BadP w gr b e) := by
  obtain ⟨hT, hw⟩ := textD_bad he
  have HI := Lib.hid (show TmX w gr b rr (l) (k :: r) (0) w from ⟨hrd, hR, Ch.refl _ _, hn1, hn2, hR.lt, hrd.lt, hrr⟩)
  have hw1 : wrap64 k = k := by have := hkb; unfold wrap64; omega
  have hk8 : IntKind.u8.wrap k = k := wrap_u8 (by have := hkb; omega)
  have hfz : (fieldsF k != 0) = true := by
    obtain rfl | rfl | rfl | rfl | rfl | rfl | rfl | rfl : k = 1 ∨ k = 2 ∨ k = 3 ∨ k = 4 ∨ k = 5 ∨ k = 6 ∨ k = 7 ∨ k = 8 := by omega
    all_goals decide
  have HAB := Lib.hid hAB
  have HLEN := Lib.hid hlen
  have HKB := Lib.hid hkb
  have HFD := Lib.hid (fields_any k)
  have HKD := Lib.hid (kids_any k)
  have HT := Lib.hid (has_any k 1 (by omega))
  have HU := Lib.hid (has_any k 2 (by omega))
  have HN := Lib.hid (has_any k 4 (by omega))
  rw [hT] at HT
  clear hT he
  obtain ⟨f, hf⟩ : ∃ f, fieldsF k = f := ⟨_, rfl⟩
  rw [hf] at HFD HT HU HN HKD hfz
  clear hf hrd hR hn1 hn2 hrr hAB hlen hkb
  have g1 : decide (0 ≤ l - 1) = true := by simpa using hl2
  have g2 : decide (d ≤ 60) = true := by simpa using hd3
  rcases hw with ⟨rfl, rfl⟩ | ⟨n, q, rfl, ⟨h64, rfl⟩ | ⟨h64, hq, rfl⟩⟩
  · skip
    go_enter Try.func43, Try.ntmps43
    go_wp2_with (first
    | ((with_reducible refine wpList_alloc_blk w rfl 24 rfl (tmC 0 0 0 ⟨#[]⟩ (.slice none 0 0)) Try.zeroTm ?_); intro a0 hb hbel hsz; have I0 := HI.out.low hbel; have c0 := I0.R.cell 0; simp only [List.getElem?_cons_zero] at c0; clear hb hbel hsz))
    refine (u8_cons b rr k ([]) a0 I0.rd I0.rs HAB.out).mono ?_
    rintro e' a1 ⟨rfl, hrd, hc⟩
    have I1 := I0.read hrd hc
    clear hrd hc c0 I0
    go_wp2_with (first
    | ((with_reducible refine wpList_buildKind rfl (.tmp 13) rfl (k) rfl ?_))
    | ((with_reducible refine wpList_alloc_blk a1 rfl 24 rfl (tmC 0 0 0 ⟨#[]⟩ (.slice none 0 0)) Try.zeroTm ?_); intro a2 hb hbel hsz; have I2 := I1.low hbel; have HB2 := Lib.hid hb; clear hb hbel hsz)
    | ((with_reducible refine wpList_store_blk a2 rfl 24 (.tmp 5) (.tmp 14) rfl a1.heap.size 24 (tmC 0 0 0 ⟨#[]⟩ (.slice none 0 0)) (tmC k 0 0 ⟨#[]⟩ (.slice none 0 0)) HB2.out rfl rfl rfl (tmC_info _ _ _ _ _) (tmC_one _ _ _ _ _ _ _) ?_); intro a3 hb hc hs; have J3 : TmY w gr b rr a1.heap.size (tmC k 0 0 ⟨#[]⟩ (.slice none 0 0)) (l) ([]) (0) a3 := ⟨I2.off hc I1.ch.size, hb, I1.ch.size⟩; have c5 := J3.T.cell 0; simp only [tmC, List.getElem?_cons_zero, List.getElem?_cons_succ] at c5; clear hb hc hs))
    refine (HFD.out a3).mono ?_
    rintro e' w' ⟨rfl, rfl⟩
    clear I1 I2 HB2 c5
    generalize a1.heap.size = g5 at J3 ⊢
    have cl0 := J3.I.R.cell 1
    simp only [List.getElem?_cons_zero, List.getElem?_cons_succ] at cl0
    go_wp2_with (first
    | ((with_reducible refine wpList_store1 a3 rfl 3 (.tmp 24) (.tmp 22) rfl gr 1 64 [.pointer (some ⟨b, 0, none⟩), .int .i64 l] J3.I.R rfl (.int .i64 (l - 1)) rfl (by simp) Try.sizeInt1 rfl rfl ?_); intro a4 hb hc hs; have J4 := J3.setR hb hc; have cl := J4.I.R.cell 1; simp only [List.getElem?_cons_zero, List.getElem?_cons_succ] at cl; clear hb hc hs))
    clear cl0
    refine (need_ok gr b rr _ _ a4 J4.I.rd J4.I.R).mono ?_
    rintro e' w' ⟨rfl, rfl⟩
    clear cl
    go_wp2_with fail
    refine (HT.out a4).mono ?_
    rintro e' w' ⟨rfl, rfl⟩
    have c0 := J4.I.R.cell 0
    simp only [List.getElem?_cons_zero] at c0
    go_wp2_with fail
    refine (u8_nil0 b rr a4 J4.I.rd J4.I.rs).mono ?_
    rintro e' a5 ⟨rfl, hrd, hc⟩
    have J5 := J4.read hrd hc
    clear hrd hc c0
    go_wp2_with fail
    refine (need_short gr b rr _ _ _ a5 J5.I.rd J5.I.R).mono ?_
    rintro e' w' ⟨rfl, rfl⟩
    exact ⟨rfl, rfl, J5.I.ch⟩
  · skip
    have hn8 := HAB.out n (List.mem_cons_of_mem _ List.mem_cons_self)
    have hw2 : wrap64 n = n := by unfold wrap64; omega
    have HABQ := Lib.hid HAB.out.tail
    have g3 : decide (n ≤ 64) = false := by simp; omega
    clear h64
    go_enter Try.func43, Try.ntmps43
    go_wp2_with (first
    | ((with_reducible refine wpList_alloc_blk w rfl 24 rfl (tmC 0 0 0 ⟨#[]⟩ (.slice none 0 0)) Try.zeroTm ?_); intro a0 hb hbel hsz; have I0 := HI.out.low hbel; have c0 := I0.R.cell 0; simp only [List.getElem?_cons_zero] at c0; clear hb hbel hsz))
    refine (u8_cons b rr k (n :: q) a0 I0.rd I0.rs HAB.out).mono ?_
    rintro e' a1 ⟨rfl, hrd, hc⟩
    have I1 := I0.read hrd hc
    clear hrd hc c0 I0
    go_wp2_with (first
    | ((with_reducible refine wpList_buildKind rfl (.tmp 13) rfl (k) rfl ?_))
    | ((with_reducible refine wpList_alloc_blk a1 rfl 24 rfl (tmC 0 0 0 ⟨#[]⟩ (.slice none 0 0)) Try.zeroTm ?_); intro a2 hb hbel hsz; have I2 := I1.low hbel; have HB2 := Lib.hid hb; clear hb hbel hsz)
    | ((with_reducible refine wpList_store_blk a2 rfl 24 (.tmp 5) (.tmp 14) rfl a1.heap.size 24 (tmC 0 0 0 ⟨#[]⟩ (.slice none 0 0)) (tmC k 0 0 ⟨#[]⟩ (.slice none 0 0)) HB2.out rfl rfl rfl (tmC_info _ _ _ _ _) (tmC_one _ _ _ _ _ _ _) ?_); intro a3 hb hc hs; have J3 : TmY w gr b rr a1.heap.size (tmC k 0 0 ⟨#[]⟩ (.slice none 0 0)) (l) (n :: q) (0) a3 := ⟨I2.off hc I1.ch.size, hb, I1.ch.size⟩; have c5 := J3.T.cell 0; simp only [tmC, List.getElem?_cons_zero, List.getElem?_cons_succ] at c5; clear hb hc hs))
    refine (HFD.out a3).mono ?_
    rintro e' w' ⟨rfl, rfl⟩
    clear I1 I2 HB2 c5
    generalize a1.heap.size = g5 at J3 ⊢
    have cl0 := J3.I.R.cell 1
    simp only [List.getElem?_cons_zero, List.getElem?_cons_succ] at cl0
    go_wp2_with (first
    | ((with_reducible refine wpList_store1 a3 rfl 3 (.tmp 24) (.tmp 22) rfl gr 1 64 [.pointer (some ⟨b, 0, none⟩), .int .i64 l] J3.I.R rfl (.int .i64 (l - 1)) rfl (by simp) Try.sizeInt1 rfl rfl ?_); intro a4 hb hc hs; have J4 := J3.setR hb hc; have cl := J4.I.R.cell 1; simp only [List.getElem?_cons_zero, List.getElem?_cons_succ] at cl; clear hb hc hs))
    clear cl0
    refine (need_ok gr b rr _ _ a4 J4.I.rd J4.I.R).mono ?_
    rintro e' w' ⟨rfl, rfl⟩
    clear cl
    go_wp2_with fail
    refine (HT.out a4).mono ?_
    rintro e' w' ⟨rfl, rfl⟩
    have c0 := J4.I.R.cell 0
    simp only [List.getElem?_cons_zero] at c0
    go_wp2_with fail
    refine (u8_cons b rr n q a4 J4.I.rd J4.I.rs HABQ.out).mono ?_
    rintro e' a5 ⟨rfl, hrd, hc⟩
    have J5 := J4.read hrd hc
    clear hrd hc c0
    go_wp2_with fail
    refine (need_term gr b rr _ _ a5 J5.I.rd J5.I.R).mono ?_
    rintro e' w' ⟨rfl, rfl⟩
    exact ⟨rfl, rfl, J5.I.ch⟩
  · skip
    have hn8 := HAB.out n (List.mem_cons_of_mem _ List.mem_cons_self)
    have hw2 : wrap64 n = n := by unfold wrap64; omega
    have HABQ := Lib.hid HAB.out.tail
    have g3 : decide (n ≤ 64) = true := by simp; omega
    have HQ := Lib.hid hq
    clear h64 hq
    go_enter Try.func43, Try.ntmps43
    go_wp2_with (first
    | ((with_reducible refine wpList_alloc_blk w rfl 24 rfl (tmC 0 0 0 ⟨#[]⟩ (.slice none 0 0)) Try.zeroTm ?_); intro a0 hb hbel hsz; have I0 := HI.out.low hbel; have c0 := I0.R.cell 0; simp only [List.getElem?_cons_zero] at c0; clear hb hbel hsz))
    refine (u8_cons b rr k (n :: q) a0 I0.rd I0.rs HAB.out).mono ?_
    rintro e' a1 ⟨rfl, hrd, hc⟩
    have I1 := I0.read hrd hc
    clear hrd hc c0 I0
    go_wp2_with (first
    | ((with_reducible refine wpList_buildKind rfl (.tmp 13) rfl (k) rfl ?_))
    | ((with_reducible refine wpList_alloc_blk a1 rfl 24 rfl (tmC 0 0 0 ⟨#[]⟩ (.slice none 0 0)) Try.zeroTm ?_); intro a2 hb hbel hsz; have I2 := I1.low hbel; have HB2 := Lib.hid hb; clear hb hbel hsz)
    | ((with_reducible refine wpList_store_blk a2 rfl 24 (.tmp 5) (.tmp 14) rfl a1.heap.size 24 (tmC 0 0 0 ⟨#[]⟩ (.slice none 0 0)) (tmC k 0 0 ⟨#[]⟩ (.slice none 0 0)) HB2.out rfl rfl rfl (tmC_info _ _ _ _ _) (tmC_one _ _ _ _ _ _ _) ?_); intro a3 hb hc hs; have J3 : TmY w gr b rr a1.heap.size (tmC k 0 0 ⟨#[]⟩ (.slice none 0 0)) (l) (n :: q) (0) a3 := ⟨I2.off hc I1.ch.size, hb, I1.ch.size⟩; have c5 := J3.T.cell 0; simp only [tmC, List.getElem?_cons_zero, List.getElem?_cons_succ] at c5; clear hb hc hs))
    refine (HFD.out a3).mono ?_
    rintro e' w' ⟨rfl, rfl⟩
    clear I1 I2 HB2 c5
    generalize a1.heap.size = g5 at J3 ⊢
    have cl0 := J3.I.R.cell 1
    simp only [List.getElem?_cons_zero, List.getElem?_cons_succ] at cl0
    go_wp2_with (first
    | ((with_reducible refine wpList_store1 a3 rfl 3 (.tmp 24) (.tmp 22) rfl gr 1 64 [.pointer (some ⟨b, 0, none⟩), .int .i64 l] J3.I.R rfl (.int .i64 (l - 1)) rfl (by simp) Try.sizeInt1 rfl rfl ?_); intro a4 hb hc hs; have J4 := J3.setR hb hc; have cl := J4.I.R.cell 1; simp only [List.getElem?_cons_zero, List.getElem?_cons_succ] at cl; clear hb hc hs))
    clear cl0
    refine (need_ok gr b rr _ _ a4 J4.I.rd J4.I.R).mono ?_
    rintro e' w' ⟨rfl, rfl⟩
    clear cl
    go_wp2_with fail
    refine (HT.out a4).mono ?_
    rintro e' w' ⟨rfl, rfl⟩
    have c0 := J4.I.R.cell 0
    simp only [List.getElem?_cons_zero] at c0
    go_wp2_with fail
    refine (u8_cons b rr n q a4 J4.I.rd J4.I.rs HABQ.out).mono ?_
    rintro e' a5 ⟨rfl, hrd, hc⟩
    have J5 := J4.read hrd hc
    clear hrd hc c0
    go_wp2_with fail
    refine (need_ok gr b rr _ _ a5 J5.I.rd J5.I.R).mono ?_
    rintro e' w' ⟨rfl, rfl⟩
    have c0 := J5.I.R.cell 0
    simp only [List.getElem?_cons_zero] at c0
    clear g3
    go_wp2_with fail
    refine (raw_of b rr q 0 n a5 q 7 [] 0 J5.I.rd J5.I.rs (by have h := HLEN.out; simp only [List.length_cons] at h; omega) (takeF_short (by omega) HQ.out) rfl).mono ?_
    rintro e' a6 ⟨or, pr, rfl, hown, hrd, hc⟩
    have J7 := J5.read hrd hc
    have cv := run_convert_sl (P := Try.prog) a6 25 9 5 Try.underlying25 Try.underlying5 Try.underlying9 (.slice or 0 pr) [] (Sl.of_owns hown) (fun _ h => by cases h)
    rw [show toB [] = ⟨#[]⟩ from rfl] at cv
    clear hrd hc c0 hown
    go_wp2_with (first
    | ((with_reducible refine wpList_store1 a6 rfl 9 (.tmp 59) (.tmp 58) rfl g5 3 24 _ J7.T rfl (.string ⟨#[]⟩) rfl (by simp [tmC]) Try.sizeStr1 rfl rfl ?_); intro a7 hb hc hs; have J8 : TmY w gr b rr g5 (tmC k 0 0 ⟨#[]⟩ (.slice none 0 0)) (l - 1) (q) (7) a7 := J7.setT hb hc; clear hb hc hs))
    clear cv
    refine (need_short gr b rr _ _ _ a7 J8.I.rd J8.I.R).mono ?_
    rintro e' w' ⟨rfl, rfl⟩
    exact ⟨rfl, rfl, J8.I.ch⟩

set_option maxRecDepth 100000 in
set_option maxHeartbeats 8000000 in
theorem term_user (k : Int) (r : List Int) (d l e : Int) (gr b rr : Nat) (w : World) (hR : Blk w gr 64 [.pointer (some ⟨b, 0, none⟩), .int .i64 l]) (hn1 : gr ≠ b) (hn2 : rr ≠ gr) (hrr : rr < w.heap.size) (hl0 : 0 ≤ l) (hl1 : l ≤ 1200) (hd1 : 1 ≤ d) (hd2 : d ≤ 61) (hkb : 1 ≤ k ∧ k ≤ 8) (hl2 : 0 ≤ l - 1) (hd3 : d ≤ 60) (hAB : AllB (k :: r)) (hlen : r.length ≤ 1000000) (hrd : Rd w b rr (k :: r) 0) (he : userD (hasB k 2) r = .error e) : Calls Try.prog 43 #[.pointer (some ⟨gr, 0, none⟩), .int .i64 d] w (BadP w gr b e) := by
  obtain ⟨hU, hw⟩ := userD_bad he
  have hT := (has_kinds hkb).1 hU
  have HI := Lib.hid (show TmX w gr b rr (l) (k :: r) (0) w from ⟨hrd, hR, Ch.refl _ _, hn1, hn2, hR.lt, hrd.lt, hrr⟩)
  have hw1 : wrap64 k = k := by have := hkb; unfold wrap64; omega
  have hk8 : IntKind.u8.wrap k = k := wrap_u8 (by have := hkb; omega)
  have hfz : (fieldsF k != 0) = true := by
    obtain rfl | rfl | rfl | rfl | rfl | rfl | rfl | rfl : k = 1 ∨ k = 2 ∨ k = 3 ∨ k = 4 ∨ k = 5 ∨ k = 6 ∨ k = 7 ∨ k = 8 := by omega
    all_goals decide
  have HAB := Lib.hid hAB
  have HLEN := Lib.hid hlen
  have HKB := Lib.hid hkb
  have HFD := Lib.hid (fields_any k)
  have HKD := Lib.hid (kids_any k)
  have HT := Lib.hid (has_any k 1 (by omega))
  have HU := Lib.hid (has_any k 2 (by omega))
  have HN := Lib.hid (has_any k 4 (by omega))
  rw [hT] at HT
  rw [hU] at HU
  clear hT hU he
  obtain ⟨f, hf⟩ : ∃ f, fieldsF k = f := ⟨_, rfl⟩
  rw [hf] at HFD HT HU HN HKD hfz
  clear hf hrd hR hn1 hn2 hrr hAB hlen hkb
  have g1 : decide (0 ≤ l - 1) = true := by simpa using hl2
  have g2 : decide (d ≤ 60) = true := by simpa using hd3
  rcases hw with ⟨rfl, rfl⟩ | ⟨u, q, rfl, hu, rfl⟩
  · skip
    go_enter Try.func43, Try.ntmps43
    go_wp2_with (first
    | ((with_reducible refine wpList_alloc_blk w rfl 24 rfl (tmC 0 0 0 ⟨#[]⟩ (.slice none 0 0)) Try.zeroTm ?_); intro a0 hb hbel hsz; have I0 := HI.out.low hbel; have c0 := I0.R.cell 0; simp only [List.getElem?_cons_zero] at c0; clear hb hbel hsz))
    refine (u8_cons b rr k ([]) a0 I0.rd I0.rs HAB.out).mono ?_
    rintro e' a1 ⟨rfl, hrd, hc⟩
    have I1 := I0.read hrd hc
    clear hrd hc c0 I0
    go_wp2_with (first
    | ((with_reducible refine wpList_buildKind rfl (.tmp 13) rfl (k) rfl ?_))
    | ((with_reducible refine wpList_alloc_blk a1 rfl 24 rfl (tmC 0 0 0 ⟨#[]⟩ (.slice none 0 0)) Try.zeroTm ?_); intro a2 hb hbel hsz; have I2 := I1.low hbel; have HB2 := Lib.hid hb; clear hb hbel hsz)
    | ((with_reducible refine wpList_store_blk a2 rfl 24 (.tmp 5) (.tmp 14) rfl a1.heap.size 24 (tmC 0 0 0 ⟨#[]⟩ (.slice none 0 0)) (tmC k 0 0 ⟨#[]⟩ (.slice none 0 0)) HB2.out rfl rfl rfl (tmC_info _ _ _ _ _) (tmC_one _ _ _ _ _ _ _) ?_); intro a3 hb hc hs; have J3 : TmY w gr b rr a1.heap.size (tmC k 0 0 ⟨#[]⟩ (.slice none 0 0)) (l) ([]) (0) a3 := ⟨I2.off hc I1.ch.size, hb, I1.ch.size⟩; have c5 := J3.T.cell 0; simp only [tmC, List.getElem?_cons_zero, List.getElem?_cons_succ] at c5; clear hb hc hs))
    refine (HFD.out a3).mono ?_
    rintro e' w' ⟨rfl, rfl⟩
    clear I1 I2 HB2 c5
    generalize a1.heap.size = g5 at J3 ⊢
    have cl0 := J3.I.R.cell 1
    simp only [List.getElem?_cons_zero, List.getElem?_cons_succ] at cl0
    go_wp2_with (first
    | ((with_reducible refine wpList_store1 a3 rfl 3 (.tmp 24) (.tmp 22) rfl gr 1 64 [.pointer (some ⟨b, 0, none⟩), .int .i64 l] J3.I.R rfl (.int .i64 (l - 1)) rfl (by simp) Try.sizeInt1 rfl rfl ?_); intro a4 hb hc hs; have J4 := J3.setR hb hc; have cl := J4.I.R.cell 1; simp only [List.getElem?_cons_zero, List.getElem?_cons_succ] at cl; clear hb hc hs))
    clear cl0
    refine (need_ok gr b rr _ _ a4 J4.I.rd J4.I.R).mono ?_
    rintro e' w' ⟨rfl, rfl⟩
    clear cl
    go_wp2_with fail
    refine (HT.out a4).mono ?_
    rintro e' w' ⟨rfl, rfl⟩
    go_wp2_with fail
    refine (HU.out a4).mono ?_
    rintro e' w' ⟨rfl, rfl⟩
    have c0 := J4.I.R.cell 0
    simp only [List.getElem?_cons_zero] at c0
    go_wp2_with fail
    refine (u8_nil0 b rr a4 J4.I.rd J4.I.rs).mono ?_
    rintro e' a5 ⟨rfl, hrd, hc⟩
    have J5 := J4.read hrd hc
    clear hrd hc c0
    have hw3 : wrap64 0 = 0 := by unfold wrap64; decide
    go_wp2_with (first
    | ((with_reducible refine wpList_store1 a5 rfl 3 (.tmp 70) (.tmp 69) rfl g5 1 24 _ J5.T rfl (.int .i64 (0)) ?_ (by simp [tmC]) Try.sizeInt1 rfl rfl ?_); (focus (first | rfl | exact congrArg (Value.int IntKind.i64) hw3)); intro a6 hb hc hs; have J6 : TmY w gr b rr g5 (tmC k (0) 0 ⟨#[]⟩ (.slice none 0 0)) (l - 1) ([]) (7) a6 := J5.setT hb hc; have cu := J6.T.cell 1; simp only [tmC, List.getElem?_cons_zero, List.getElem?_cons_succ] at cu; clear hb hc hs))
    have hx := known_any 0 a6
    rw [show knownB 0 = false from rfl] at hx
    refine Calls.mono hx ?_
    clear hx
    rintro e' w' ⟨rfl, rfl⟩
    clear cu
    go_wp2_with fail
    refine (need_short gr b rr _ _ _ a6 J6.I.rd J6.I.R).mono ?_
    rintro e' w' ⟨rfl, rfl⟩
    exact ⟨rfl, rfl, J6.I.ch⟩
  · skip
    have hu8 := HAB.out u (List.mem_cons_of_mem _ List.mem_cons_self)
    have hw3 : wrap64 u = u := by unfold wrap64; omega
    have HABQ := Lib.hid HAB.out.tail
    have HKU := Lib.hid hu
    clear hu
    go_enter Try.func43, Try.ntmps43
    go_wp2_with (first
    | ((with_reducible refine wpList_alloc_blk w rfl 24 rfl (tmC 0 0 0 ⟨#[]⟩ (.slice none 0 0)) Try.zeroTm ?_); intro a0 hb hbel hsz; have I0 := HI.out.low hbel; have c0 := I0.R.cell 0; simp only [List.getElem?_cons_zero] at c0; clear hb hbel hsz))
    refine (u8_cons b rr k (u :: q) a0 I0.rd I0.rs HAB.out).mono ?_
    rintro e' a1 ⟨rfl, hrd, hc⟩
    have I1 := I0.read hrd hc
    clear hrd hc c0 I0
    go_wp2_with (first
    | ((with_reducible refine wpList_buildKind rfl (.tmp 13) rfl (k) rfl ?_))
    | ((with_reducible refine wpList_alloc_blk a1 rfl 24 rfl (tmC 0 0 0 ⟨#[]⟩ (.slice none 0 0)) Try.zeroTm ?_); intro a2 hb hbel hsz; have I2 := I1.low hbel; have HB2 := Lib.hid hb; clear hb hbel hsz)
    | ((with_reducible refine wpList_store_blk a2 rfl 24 (.tmp 5) (.tmp 14) rfl a1.heap.size 24 (tmC 0 0 0 ⟨#[]⟩ (.slice none 0 0)) (tmC k 0 0 ⟨#[]⟩ (.slice none 0 0)) HB2.out rfl rfl rfl (tmC_info _ _ _ _ _) (tmC_one _ _ _ _ _ _ _) ?_); intro a3 hb hc hs; have J3 : TmY w gr b rr a1.heap.size (tmC k 0 0 ⟨#[]⟩ (.slice none 0 0)) (l) (u :: q) (0) a3 := ⟨I2.off hc I1.ch.size, hb, I1.ch.size⟩; have c5 := J3.T.cell 0; simp only [tmC, List.getElem?_cons_zero, List.getElem?_cons_succ] at c5; clear hb hc hs))
    refine (HFD.out a3).mono ?_
    rintro e' w' ⟨rfl, rfl⟩
    clear I1 I2 HB2 c5
    generalize a1.heap.size = g5 at J3 ⊢
    have cl0 := J3.I.R.cell 1
    simp only [List.getElem?_cons_zero, List.getElem?_cons_succ] at cl0
    go_wp2_with (first
    | ((with_reducible refine wpList_store1 a3 rfl 3 (.tmp 24) (.tmp 22) rfl gr 1 64 [.pointer (some ⟨b, 0, none⟩), .int .i64 l] J3.I.R rfl (.int .i64 (l - 1)) rfl (by simp) Try.sizeInt1 rfl rfl ?_); intro a4 hb hc hs; have J4 := J3.setR hb hc; have cl := J4.I.R.cell 1; simp only [List.getElem?_cons_zero, List.getElem?_cons_succ] at cl; clear hb hc hs))
    clear cl0
    refine (need_ok gr b rr _ _ a4 J4.I.rd J4.I.R).mono ?_
    rintro e' w' ⟨rfl, rfl⟩
    clear cl
    go_wp2_with fail
    refine (HT.out a4).mono ?_
    rintro e' w' ⟨rfl, rfl⟩
    go_wp2_with fail
    refine (HU.out a4).mono ?_
    rintro e' w' ⟨rfl, rfl⟩
    have c0 := J4.I.R.cell 0
    simp only [List.getElem?_cons_zero] at c0
    go_wp2_with fail
    refine (u8_cons b rr u q a4 J4.I.rd J4.I.rs HABQ.out).mono ?_
    rintro e' a5 ⟨rfl, hrd, hc⟩
    have J5 := J4.read hrd hc
    clear hrd hc c0
    go_wp2_with (first
    | ((with_reducible refine wpList_store1 a5 rfl 3 (.tmp 70) (.tmp 69) rfl g5 1 24 _ J5.T rfl (.int .i64 (u)) ?_ (by simp [tmC]) Try.sizeInt1 rfl rfl ?_); (focus (first | rfl | exact congrArg (Value.int IntKind.i64) hw3)); intro a6 hb hc hs; have J6 : TmY w gr b rr g5 (tmC k (u) 0 ⟨#[]⟩ (.slice none 0 0)) (l - 1) (q) (0) a6 := J5.setT hb hc; have cu := J6.T.cell 1; simp only [tmC, List.getElem?_cons_zero, List.getElem?_cons_succ] at cu; clear hb hc hs))
    have hx := known_any u a6
    rw [HKU.out] at hx
    refine Calls.mono hx ?_
    clear hx
    rintro e' w' ⟨rfl, rfl⟩
    clear cu
    go_wp2_with fail
    refine (need_term gr b rr _ _ a6 J6.I.rd J6.I.R).mono ?_
    rintro e' w' ⟨rfl, rfl⟩
    exact ⟨rfl, rfl, J6.I.ch⟩

set_option maxRecDepth 100000 in
set_option maxHeartbeats 8000000 in
theorem term_num (k u : Int) (r q : List Int) (d l e : Int) (gr b rr : Nat) (w : World) (hR : Blk w gr 64 [.pointer (some ⟨b, 0, none⟩), .int .i64 l]) (hn1 : gr ≠ b) (hn2 : rr ≠ gr) (hrr : rr < w.heap.size) (hl0 : 0 ≤ l) (hl1 : l ≤ 1200) (hd1 : 1 ≤ d) (hd2 : d ≤ 61) (hkb : 1 ≤ k ∧ k ≤ 8) (hl2 : 0 ≤ l - 1) (hd3 : d ≤ 60) (hAB : AllB (k :: r)) (hlen : r.length ≤ 1000000) (hrd : Rd w b rr (k :: r) 0) (hUok : r = u :: q) (hu : knownB u = true) (hU : hasB k 2 = true) (he : numD (hasB k 4) q = .error e) : Calls Try.prog 43 #[.pointer (some ⟨gr, 0, none⟩), .int .i64 d] w (BadP w gr b e) := by
  obtain ⟨hN, hw, rfl⟩ := numD_bad he
  have hT := (has_kinds hkb).1 hU
  have HI := Lib.hid (show TmX w gr b rr (l) (k :: r) (0) w from ⟨hrd, hR, Ch.refl _ _, hn1, hn2, hR.lt, hrd.lt, hrr⟩)
  have hw1 : wrap64 k = k := by have := hkb; unfold wrap64; omega
  have hk8 : IntKind.u8.wrap k = k := wrap_u8 (by have := hkb; omega)
  have hfz : (fieldsF k != 0) = true := by
    obtain rfl | rfl | rfl | rfl | rfl | rfl | rfl | rfl : k = 1 ∨ k = 2 ∨ k = 3 ∨ k = 4 ∨ k = 5 ∨ k = 6 ∨ k = 7 ∨ k = 8 := by omega
    all_goals decide
  have HAB := Lib.hid hAB
  have HLEN := Lib.hid hlen
  have HKB := Lib.hid hkb
  have HFD := Lib.hid (fields_any k)
  have HKD := Lib.hid (kids_any k)
  have HT := Lib.hid (has_any k 1 (by omega))
  have HU := Lib.hid (has_any k 2 (by omega))
  have HN := Lib.hid (has_any k 4 (by omega))
  rw [hT] at HT
  rw [hU] at HU
  rw [hN] at HN
  clear hT hU hN he
  obtain ⟨f, hf⟩ : ∃ f, fieldsF k = f := ⟨_, rfl⟩
  rw [hf] at HFD HT HU HN HKD hfz
  clear hf hrd hR hn1 hn2 hrr hAB hlen hkb
  have g1 : decide (0 ≤ l - 1) = true := by simpa using hl2
  have g2 : decide (d ≤ 60) = true := by simpa using hd3
  subst hUok
  have hu8 := HAB.out u (List.mem_cons_of_mem _ List.mem_cons_self)
  have hw3 : wrap64 u = u := by unfold wrap64; omega
  have HABQ := Lib.hid HAB.out.tail
  have HKU := Lib.hid hu
  have HW := Lib.hid hw
  clear hu hw
  go_enter Try.func43, Try.ntmps43
  go_wp2_with (first
    | ((with_reducible refine wpList_alloc_blk w rfl 24 rfl (tmC 0 0 0 ⟨#[]⟩ (.slice none 0 0)) Try.zeroTm ?_); intro a0 hb hbel hsz; have I0 := HI.out.low hbel; have c0 := I0.R.cell 0; simp only [List.getElem?_cons_zero] at c0; clear hb hbel hsz))
  refine (u8_cons b rr k (u :: q) a0 I0.rd I0.rs HAB.out).mono ?_
  rintro e' a1 ⟨rfl, hrd, hc⟩
  have I1 := I0.read hrd hc
  clear hrd hc c0 I0
  go_wp2_with (first
    | ((with_reducible refine wpList_buildKind rfl (.tmp 13) rfl (k) rfl ?_))
    | ((with_reducible refine wpList_alloc_blk a1 rfl 24 rfl (tmC 0 0 0 ⟨#[]⟩ (.slice none 0 0)) Try.zeroTm ?_); intro a2 hb hbel hsz; have I2 := I1.low hbel; have HB2 := Lib.hid hb; clear hb hbel hsz)
    | ((with_reducible refine wpList_store_blk a2 rfl 24 (.tmp 5) (.tmp 14) rfl a1.heap.size 24 (tmC 0 0 0 ⟨#[]⟩ (.slice none 0 0)) (tmC k 0 0 ⟨#[]⟩ (.slice none 0 0)) HB2.out rfl rfl rfl (tmC_info _ _ _ _ _) (tmC_one _ _ _ _ _ _ _) ?_); intro a3 hb hc hs; have J3 : TmY w gr b rr a1.heap.size (tmC k 0 0 ⟨#[]⟩ (.slice none 0 0)) (l) (u :: q) (0) a3 := ⟨I2.off hc I1.ch.size, hb, I1.ch.size⟩; have c5 := J3.T.cell 0; simp only [tmC, List.getElem?_cons_zero, List.getElem?_cons_succ] at c5; clear hb hc hs))
  refine (HFD.out a3).mono ?_
  rintro e' w' ⟨rfl, rfl⟩
  clear I1 I2 HB2 c5
  generalize a1.heap.size = g5 at J3 ⊢
  have cl0 := J3.I.R.cell 1
  simp only [List.getElem?_cons_zero, List.getElem?_cons_succ] at cl0
  go_wp2_with (first
    | ((with_reducible refine wpList_store1 a3 rfl 3 (.tmp 24) (.tmp 22) rfl gr 1 64 [.pointer (some ⟨b, 0, none⟩), .int .i64 l] J3.I.R rfl (.int .i64 (l - 1)) rfl (by simp) Try.sizeInt1 rfl rfl ?_); intro a4 hb hc hs; have J4 := J3.setR hb hc; have cl := J4.I.R.cell 1; simp only [List.getElem?_cons_zero, List.getElem?_cons_succ] at cl; clear hb hc hs))
  clear cl0
  refine (need_ok gr b rr _ _ a4 J4.I.rd J4.I.R).mono ?_
  rintro e' w' ⟨rfl, rfl⟩
  clear cl
  go_wp2_with fail
  refine (HT.out a4).mono ?_
  rintro e' w' ⟨rfl, rfl⟩
  go_wp2_with fail
  refine (HU.out a4).mono ?_
  rintro e' w' ⟨rfl, rfl⟩
  have c0 := J4.I.R.cell 0
  simp only [List.getElem?_cons_zero] at c0
  go_wp2_with fail
  refine (u8_cons b rr u q a4 J4.I.rd J4.I.rs HABQ.out).mono ?_
  rintro e' a5 ⟨rfl, hrd, hc⟩
  have J5 := J4.read hrd hc
  clear hrd hc c0
  go_wp2_with (first
    | ((with_reducible refine wpList_store1 a5 rfl 3 (.tmp 70) (.tmp 69) rfl g5 1 24 _ J5.T rfl (.int .i64 (u)) ?_ (by simp [tmC]) Try.sizeInt1 rfl rfl ?_); (focus (first | rfl | exact congrArg (Value.int IntKind.i64) hw3)); intro a6 hb hc hs; have J6 : TmY w gr b rr g5 (tmC k (u) 0 ⟨#[]⟩ (.slice none 0 0)) (l - 1) (q) (0) a6 := J5.setT hb hc; have cu := J6.T.cell 1; simp only [tmC, List.getElem?_cons_zero, List.getElem?_cons_succ] at cu; clear hb hc hs))
  have hx := known_any u a6
  rw [HKU.out] at hx
  refine Calls.mono hx ?_
  clear hx
  rintro e' w' ⟨rfl, rfl⟩
  clear cu
  go_wp2_with fail
  refine (need_ok gr b rr _ _ a6 J6.I.rd J6.I.R).mono ?_
  rintro e' w' ⟨rfl, rfl⟩
  go_wp2_with fail
  refine (HN.out a6).mono ?_
  rintro e' w' ⟨rfl, rfl⟩
  have c0 := J6.I.R.cell 0
  simp only [List.getElem?_cons_zero] at c0
  have hw4 : wrap64 0 = 0 := by unfold wrap64; decide
  go_wp2_with fail
  refine (u16_short b rr q a6 J6.I.rd J6.I.rs HABQ.out.tail HW.out).mono ?_
  rintro e' a7 ⟨rfl, hrd, hc⟩
  have J7 := J6.read hrd hc
  clear hrd hc c0
  go_wp2_with (first
    | ((with_reducible refine wpList_store1 a7 rfl 3 (.tmp 84) (.tmp 83) rfl g5 2 24 _ J7.T rfl (.int .i64 (0)) ?_ (by simp [tmC]) Try.sizeInt1 rfl rfl ?_); (focus (first | rfl | exact congrArg (Value.int IntKind.i64) hw4)); intro a8 hb hc hs; have J8 : TmY w gr b rr g5 (tmC k (u) (0) ⟨#[]⟩ (.slice none 0 0)) (l - 1) (q) (7) a8 := J7.setT hb hc; clear hb hc hs))
  refine (need_short gr b rr _ _ _ a8 J8.I.rd J8.I.R).mono ?_
  rintro e' w' ⟨rfl, rfl⟩
  exact ⟨rfl, rfl, J8.I.ch⟩

set_option maxRecDepth 100000 in
set_option maxHeartbeats 8000000 in
theorem term_kids0 (k : Int) (r : List Int) (d l e : Int) (fu : Nat) (gr b rr : Nat) (w : World) (hR : Blk w gr 64 [.pointer (some ⟨b, 0, none⟩), .int .i64 l]) (hn1 : gr ≠ b) (hn2 : rr ≠ gr) (hrr : rr < w.heap.size) (hl0 : 0 ≤ l) (hl1 : l ≤ 1200) (hd1 : 1 ≤ d) (hd2 : d ≤ 61) (hkb : 1 ≤ k ∧ k ≤ 8) (hl2 : 0 ≤ l - 1) (hd3 : d ≤ 60) (hAB : AllB (k :: r)) (hlen : r.length ≤ 1000000) (hrd : Rd w b rr (k :: r) 0) (m : Nat) (hm : kidsN k = m) (hdd : d + 1 = 61 - (fu : Int)) (ih : ∀ (bs : List Int) (l e : Int) (gr b rr : Nat) (w : World), decF fu bs l = .error e → Rd w b rr bs 0 → Blk w gr 64 [.pointer (some ⟨b, 0, none⟩), .int .i64 l] → gr ≠ b → rr ≠ gr → rr < w.heap.size → AllB bs → bs.length ≤ 1000000 → 0 ≤ l → l ≤ 1200 → Calls Try.prog 43 #[.pointer (some ⟨gr, 0, none⟩), .int .i64 (61 - fu)] w (BadP w gr b e)) (hT : hasB k 1 = false) (hU : hasB k 2 = false) (hN : hasB k 4 = false) (he : kidsD (decF fu) m r (l - 1) = .error e) : Calls Try.prog 43 #[.pointer (some ⟨gr, 0, none⟩), .int .i64 d] w (BadP w gr b e) := by
  have HI := Lib.hid (show TmX w gr b rr (l) (k :: r) (0) w from ⟨hrd, hR, Ch.refl _ _, hn1, hn2, hR.lt, hrd.lt, hrr⟩)
  have hw1 : wrap64 k = k := by have := hkb; unfold wrap64; omega
  have hk8 : IntKind.u8.wrap k = k := wrap_u8 (by have := hkb; omega)
  have hfz : (fieldsF k != 0) = true := by
    obtain rfl | rfl | rfl | rfl | rfl | rfl | rfl | rfl : k = 1 ∨ k = 2 ∨ k = 3 ∨ k = 4 ∨ k = 5 ∨ k = 6 ∨ k = 7 ∨ k = 8 := by omega
    all_goals decide
  have HAB := Lib.hid hAB
  have HLEN := Lib.hid hlen
  have HKB := Lib.hid hkb
  have HFD := Lib.hid (fields_any k)
  have HKD := Lib.hid (kids_any k)
  have HT := Lib.hid (has_any k 1 (by omega))
  have HU := Lib.hid (has_any k 2 (by omega))
  have HN := Lib.hid (has_any k 4 (by omega))
  have HIH := Lib.hid ih
  have HE := Lib.hid he
  have HDD := Lib.hid hdd
  have hm2 : m ≤ 2 := by have h3 := kidsN_le k; omega
  have hdb : d + 1 ≤ 9223372036854775807 := by omega
  rw [hm] at HKD
  rw [hT] at HT
  rw [hU] at HU
  rw [hN] at HN
  clear hT hU hN he ih hm hdd
  obtain ⟨f, hf⟩ : ∃ f, fieldsF k = f := ⟨_, rfl⟩
  rw [hf] at HFD HT HU HN HKD hfz
  clear hf hrd hR hn1 hn2 hrr hAB hlen hkb
  have g1 : decide (0 ≤ l - 1) = true := by simpa using hl2
  have g2 : decide (d ≤ 60) = true := by simpa using hd3
  have HR4 := Lib.hid (show AllB r ∧ r.length ≤ 1000000 from ⟨HAB.out.tail, HLEN.out⟩)
  go_enter Try.func43, Try.ntmps43
  go_wp2_with (first
    | ((with_reducible refine wpList_alloc_blk w rfl 24 rfl (tmC 0 0 0 ⟨#[]⟩ (.slice none 0 0)) Try.zeroTm ?_); intro a0 hb hbel hsz; have I0 := HI.out.low hbel; have c0 := I0.R.cell 0; simp only [List.getElem?_cons_zero] at c0; clear hb hbel hsz))
  refine (u8_cons b rr k (r) a0 I0.rd I0.rs HAB.out).mono ?_
  rintro e' a1 ⟨rfl, hrd, hc⟩
  have I1 := I0.read hrd hc
  clear hrd hc c0 I0
  go_wp2_with (first
    | ((with_reducible refine wpList_buildKind rfl (.tmp 13) rfl (k) rfl ?_))
    | ((with_reducible refine wpList_alloc_blk a1 rfl 24 rfl (tmC 0 0 0 ⟨#[]⟩ (.slice none 0 0)) Try.zeroTm ?_); intro a2 hb hbel hsz; have I2 := I1.low hbel; have HB2 := Lib.hid hb; clear hb hbel hsz)
    | ((with_reducible refine wpList_store_blk a2 rfl 24 (.tmp 5) (.tmp 14) rfl a1.heap.size 24 (tmC 0 0 0 ⟨#[]⟩ (.slice none 0 0)) (tmC k 0 0 ⟨#[]⟩ (.slice none 0 0)) HB2.out rfl rfl rfl (tmC_info _ _ _ _ _) (tmC_one _ _ _ _ _ _ _) ?_); intro a3 hb hc hs; have J3 : TmY w gr b rr a1.heap.size (tmC k 0 0 ⟨#[]⟩ (.slice none 0 0)) (l) (r) (0) a3 := ⟨I2.off hc I1.ch.size, hb, I1.ch.size⟩; have c5 := J3.T.cell 0; simp only [tmC, List.getElem?_cons_zero, List.getElem?_cons_succ] at c5; clear hb hc hs))
  refine (HFD.out a3).mono ?_
  rintro e' w' ⟨rfl, rfl⟩
  clear I1 I2 HB2 c5
  generalize a1.heap.size = g5 at J3 ⊢
  have cl0 := J3.I.R.cell 1
  simp only [List.getElem?_cons_zero, List.getElem?_cons_succ] at cl0
  go_wp2_with (first
    | ((with_reducible refine wpList_store1 a3 rfl 3 (.tmp 24) (.tmp 22) rfl gr 1 64 [.pointer (some ⟨b, 0, none⟩), .int .i64 l] J3.I.R rfl (.int .i64 (l - 1)) rfl (by simp) Try.sizeInt1 rfl rfl ?_); intro a4 hb hc hs; have J4 := J3.setR hb hc; have cl := J4.I.R.cell 1; simp only [List.getElem?_cons_zero, List.getElem?_cons_succ] at cl; clear hb hc hs))
  clear cl0
  refine (need_ok gr b rr _ _ a4 J4.I.rd J4.I.R).mono ?_
  rintro e' w' ⟨rfl, rfl⟩
  clear cl
  go_wp2_with fail
  refine (HT.out a4).mono ?_
  rintro e' w' ⟨rfl, rfl⟩
  go_wp2_with fail
  refine (HU.out a4).mono ?_
  rintro e' w' ⟨rfl, rfl⟩
  go_wp2_with fail
  refine (HN.out a4).mono ?_
  rintro e' w' ⟨rfl, rfl⟩
  go_wp2_with fail
  refine (HKD.out a4).mono ?_
  rintro e' w' ⟨rfl, rfl⟩
  go_wp2_with fail
  go_loopw [89] (fun i wr => ∃ (j : Nat) (lj : Int) (oz : Option Addr) (pz : Nat) (ts : List Tm) (rj : List Int), i = .int .i64 j ∧ j ≤ m ∧ 0 ≤ lj ∧ lj ≤ 1200 ∧ ts.length = j ∧ Hid (kidsD (decF fu) j r (l - 1) = .ok (ts, rj, lj)) ∧ Hid (AllB rj ∧ rj.length ≤ 1000000) ∧ TmY w gr b rr g5 (tmC k (0) (0) ⟨#[]⟩ (.slice oz ts.length pz)) (lj) (rj) (0) wr ∧ KidI (g5 + 1) (.slice oz ts.length pz) ts wr) (fun i _ => m - (intOf i).toNat)
  case atStart => exact ⟨0, l - 1, none, 0, [], r, rfl, Nat.zero_le _, hl2, by omega, rfl, Lib.hid rfl, HR4, J4, KidI.nil _ _⟩
  case round =>
    clear J4
    obtain ⟨j, lj, oz, pz, ts, rj, rfl, hj, hlj0, hlj1, htl, HQ, HRJ, JR, KR⟩ := hrel
    have hlt : j < m := by
      by_cases h : j < m
      · exact h
      · have e : j = m := by omega
        have h1 := HQ.out
        rw [e] at h1
        have h2 := HE.out
        rw [h1] at h2
        cases h2
    have hjz : (j : Int) < (m : Int) := by omega
    have HLT := Lib.hid (show ts.length ≤ 1000000 from by omega)
    have HTL := Lib.hid htl
    clear htl
    cases hdj : decF fu rj lj with
    | error ej =>
      have ee : ej = e := by
        have h2 := kidsD_stop j m _ _ _ _ _ _ HQ.out hdj hlt
        have h3 := HE.out
        rw [h2] at h3
        exact Except.error.inj h3
      subst ee
      have HDJ := Lib.hid hdj
      clear hdj
      go_wp2_with fail
      refine wp_region_markedP (fun w' => w'.cell? ⟨g5, 4, none⟩ = some (.slice oz ts.length pz)) 9 [0, 1, 2, 3, 4] 5 (by kernel_rfl) rfl (by kernel_rfl) (by kernel_rfl) (JR.T.cell 4) (fun c a d v w h => by cases d <;> exact h) ?_
      iterate 5 (refine' HeldL.run ?_ ?_ ?_ ?_; rotate_left 2; (simp only [List.getElem?_toArray, List.getElem?_cons_zero, List.getElem?_cons_succ]; rfl); rfl; (rintro w' k0; go_simp; with_reducible rfl); simp only [Act.put, List.setIfInBounds_toArray, List.set_cons_zero, List.set_cons_succ])
      have sm := (Sm.refl wr).drew
      have J9 := JR.low (sm.below _)
      clear sm
      generalize wr.drew = v1 at J9 ⊢
      refine' wpAnyM_one 5 (by kernel_rfl) ?_ ?_; rotate_left; (simp only [List.getElem?_toArray, List.getElem?_cons_zero, List.getElem?_cons_succ]; rfl)
      try simp only [Act.put]
      go_wp2_with fail
      have hx := HIH.out rj lj ej gr b rr v1 HDJ.out J9.I.rd J9.I.R J9.I.n1 J9.I.n2 J9.I.rs HRJ.out.1 HRJ.out.2 hlj0 hlj1
      rw [← HDD.out] at hx
      refine Calls.mono hx ?_
      clear hx
      rintro e' v2 ⟨rfl, hc⟩
      exact ⟨rfl, rfl, J9.I.ch.trans hc⟩
    | ok pj =>
      obtain ⟨kj, rk, lk⟩ := pj
      have HSN := Lib.hid (kidsD_snoc j _ _ _ _ _ _ _ _ HQ.out hdj)
      have hok := decF_ok fu rj lj kj rk lk HRJ.out.1 hdj
      have HWK := Lib.hid (show (walkM kj (d + 1) lj).1 = true ∧ (walkM kj (d + 1) lj).2 = lk from by rw [HDD.out, hok.2]; exact ⟨rfl, rfl⟩)
      have HBD := Lib.hid (walkM_bd kj (d + 1) lj HWK.out.1)
      have HRK := Lib.hid (show AllB rk ∧ rk.length ≤ 1000000 from ⟨by have h := HRJ.out.1; rw [hok.1] at h; exact h.right, by have h := HRJ.out.2; rw [hok.1, List.length_append] at h; omega⟩)
      have HAK := Lib.hid (show (bytesT kj ++ rk).length ≤ 1000000 from by rw [← hok.1]; exact HRJ.out.2)
      have JR2 : TmY w gr b rr g5 (tmC k (0) (0) ⟨#[]⟩ (.slice oz ts.length pz)) (lj) (bytesT kj ++ rk) (0) wr := by rw [← hok.1]; exact JR
      clear JR hok hdj HQ
      go_wp2_with fail
      refine wp_region_marked (fun w' => w'.cell? ⟨g5, 4, none⟩ = some (.slice oz ts.length pz)) 9 [0, 1, 2, 3, 4] 5 (by kernel_rfl) rfl (by kernel_rfl) (by kernel_rfl) (JR2.T.cell 4) ?_
      iterate 5 (refine' HeldL.run ?_ ?_ ?_ ?_; rotate_left 2; (simp only [List.getElem?_toArray, List.getElem?_cons_zero, List.getElem?_cons_succ]; rfl); rfl; (rintro w' k0; go_simp; with_reducible rfl); simp only [Act.put, List.setIfInBounds_toArray, List.set_cons_zero, List.set_cons_succ])
      have sm := (Sm.refl wr).drew
      have HV2 := And.intro (JR2.low (sm.below _)) (KR.below (sm.below _))
      clear sm
      generalize wr.drew = v1 at HV2 ⊢
      refine' wpAnyM_one 5 (by kernel_rfl) ?_ ?_; rotate_left; (simp only [List.getElem?_toArray, List.getElem?_cons_zero, List.getElem?_cons_succ]; rfl)
      try simp only [Act.put]
      go_wp2_with fail
      have hx := term_ok kj rk (d + 1) lj gr b rr v1 HWK.out.1 HV2.1.I.rd HV2.1.I.R HV2.1.I.n1 HV2.1.I.n2 HV2.1.I.rs HRK.out.1 HAK.out hlj0 hlj1 (by omega) (by omega)
      rw [HWK.out.2] at hx
      refine Calls.mono hx ?_
      clear hx
      rintro e' h3 ⟨cj, rfl, htm, hrd, hR, hc⟩
      have J4 := HV2.1.all hrd hR hc
      have K5 := HV2.2.keep hc (fun q hq e => by have h1 := HV2.1.I.l1; have h2 := HV2.1.I.l2; have h4 := HV2.1.g; omega)
      have HTM := Lib.hid (show TmC (fun q => g5 + 1 ≤ q ∧ (Value.slice oz ts.length pz).ownBlock ≠ some q) h3 cj kj from htm.mono fun q hq => ⟨by have h1 := HV2.1.T.lt; have hq : v1.heap.size ≤ q := hq; omega, fun e => by have h1 := (HV2.2.lt q e).2; have hq : v1.heap.size ≤ q := hq; omega⟩)
      clear htm hrd hR hc
      obtain ⟨aj, pj, rfl, -, -, -⟩ := HTM.out.shape
      go_wp2_with fail
      refine QK.normal ⟨fun _ => (J4.T.cell 4), ?_⟩
      refine' wpAnyM_one 6 (by kernel_rfl) ?_ ?_; rotate_left; (simp only [List.getElem?_toArray, List.getElem?_cons_zero, List.getElem?_cons_succ]; rfl)
      refine wpList_slice_t1 h3 rfl (.tmp 96) rfl (tmC kj.k kj.u kj.n kj.s (.slice aj kj.ks.length pj)) rfl rfl ?_
      intro h6 hb hbel hsz
      have J7 := J4.low hbel
      have K8 := K5.below hbel
      have HTM2 := Lib.hid (And.intro (HTM.out.below hbel) hb)
      clear hb hbel hsz
      simp only [Act.put, List.setIfInBounds_toArray, List.set_cons_zero, List.set_cons_succ]
      refine QK.normal ⟨fun _ => (J7.T.cell 4), ?_⟩
      refine' wpAnyM_one 7 (by kernel_rfl) ?_ ?_; rotate_left; (simp only [List.getElem?_toArray, List.getElem?_cons_zero, List.getElem?_cons_succ]; rfl)
      at_builtin
      refine wpList_append_T (.tmp 92) (.tmp 97) rfl rfl K8 rfl rfl HTM2.out.2 HTM2.out.1 HLT.out (by have := J7.T.lt; omega) ?_
      intro oy py h9 K11 hc hat
      have J10 : TmY w gr b rr g5 (tmC k (0) (0) ⟨#[]⟩ (.slice oz ts.length pz)) (lk) (rk) (0) h9 := by
        have h1 := J7.I.l1; have h2 := J7.I.l2; have h4 := J7.g; have h5 := J7.I.l3
        have hk : ∀ q, (Value.slice oz ts.length pz).ownBlock = some q → g5 + 1 ≤ q := fun q hq => (K8.lt q hq).1
        exact ⟨⟨J7.I.rd.keep hc (fun e => by have := hk _ e; omega) (fun e => by have := hk _ e; omega), J7.I.R.keep hc (fun e => by have := hk _ e; omega), J7.I.ch.trans' hc (fun i hi e => by have := hk _ e; omega), J7.I.n1, J7.I.n2, h1, h2, h5⟩, J7.T.keep hc (fun e => by have := hk _ e; omega), h4⟩
      clear hc hat
      simp only [Act.put, List.setIfInBounds_toArray, List.set_cons_zero, List.set_cons_succ]
      refine QK.normal ⟨fun _ => (J10.T.cell 4), ?_⟩
      refine wpAnyM_takes (by kernel_rfl) noPanic_any (fuel := 1) (J10.T.cell 4) [8] _ _ (by kernel_rfl) ?_
      refine' HeldL.run ?_ ?_ ?_ ?_; rotate_left 2; (simp only [List.getElem?_toArray, List.getElem?_cons_zero, List.getElem?_cons_succ]; rfl); rfl; (rintro w' k0; go_simp; with_reducible rfl); simp only [Act.put, List.setIfInBounds_toArray, List.set_cons_zero, List.set_cons_succ]
      refine' wpAnyM_one 9 (by kernel_rfl) ?_ ?_; rotate_left; (simp only [List.getElem?_toArray, List.getElem?_cons_zero, List.getElem?_cons_succ]; rfl)
      refine wpList_store1 h9 rfl 22 (.tmp 99) (.tmp 98) rfl g5 4 24 _ J10.T rfl (.slice oy (ts ++ [kj]).length py) rfl (by simp [tmC]) Try.sizeTs1 rfl rfl ?_
      intro h12 hb hc hs
      have J13 : TmY w gr b rr g5 (tmC k (0) (0) ⟨#[]⟩ (.slice oy (ts ++ [kj]).length py)) (lk) (rk) (0) h12 := J10.setT hb hc
      have K14 := K11.keep hc (fun q hq e => by have e : q = g5 := e; omega)
      clear hb hc hs
      try simp only [Act.put, List.setIfInBounds_toArray, List.set_cons_zero, List.set_cons_succ]
      refine QK.normal ⟨fun h => absurd h (by decide), ?_⟩
      refine wpAnyM_done (by kernel_rfl) ?_ _
      refine NoPanic.normal ?_
      go_wp2_with fail
      go_roundw
      case rel => exact ⟨j + 1, lk, oy, py, ts ++ [kj], rk, by go_num, by omega, by have := HBD.out.1; have := HWK.out.2; omega, by have := HBD.out.2; have := HWK.out.2; omega, by have h := HTL.out; simp [h], HSN, HRK, J13, K14⟩
      case measure => simp [intOf]; omega

set_option maxRecDepth 100000 in
set_option maxHeartbeats 8000000 in
theorem term_kids1 (k u : Int) (r q : List Int) (d l e : Int) (fu : Nat) (gr b rr : Nat) (w : World) (hR : Blk w gr 64 [.pointer (some ⟨b, 0, none⟩), .int .i64 l]) (hn1 : gr ≠ b) (hn2 : rr ≠ gr) (hrr : rr < w.heap.size) (hl0 : 0 ≤ l) (hl1 : l ≤ 1200) (hd1 : 1 ≤ d) (hd2 : d ≤ 61) (hkb : 1 ≤ k ∧ k ≤ 8) (hl2 : 0 ≤ l - 1) (hd3 : d ≤ 60) (hAB : AllB (k :: r)) (hlen : r.length ≤ 1000000) (hrd : Rd w b rr (k :: r) 0) (m : Nat) (hm : kidsN k = m) (hdd : d + 1 = 61 - (fu : Int)) (ih : ∀ (bs : List Int) (l e : Int) (gr b rr : Nat) (w : World), decF fu bs l = .error e → Rd w b rr bs 0 → Blk w gr 64 [.pointer (some ⟨b, 0, none⟩), .int .i64 l] → gr ≠ b → rr ≠ gr → rr < w.heap.size → AllB bs → bs.length ≤ 1000000 → 0 ≤ l → l ≤ 1200 → Calls Try.prog 43 #[.pointer (some ⟨gr, 0, none⟩), .int .i64 (61 - fu)] w (BadP w gr b e)) (hUok : r = u :: q) (hu : knownB u = true) (hU : hasB k 2 = true) (hN : hasB k 4 = false) (he : kidsD (decF fu) m q (l - 1) = .error e) : Calls Try.prog 43 #[.pointer (some ⟨gr, 0, none⟩), .int .i64 d] w (BadP w gr b e) := by
  have hT := (has_kinds hkb).1 hU
  have HI := Lib.hid (show TmX w gr b rr (l) (k :: r) (0) w from ⟨hrd, hR, Ch.refl _ _, hn1, hn2, hR.lt, hrd.lt, hrr⟩)
  have hw1 : wrap64 k = k := by have := hkb; unfold wrap64; omega
  have hk8 : IntKind.u8.wrap k = k := wrap_u8 (by have := hkb; omega)
  have hfz : (fieldsF k != 0) = true := by
    obtain rfl | rfl | rfl | rfl | rfl | rfl | rfl | rfl : k = 1 ∨ k = 2 ∨ k = 3 ∨ k = 4 ∨ k = 5 ∨ k = 6 ∨ k = 7 ∨ k = 8 := by omega
    all_goals decide
  have HAB := Lib.hid hAB
  have HLEN := Lib.hid hlen
  have HKB := Lib.hid hkb
  have HFD := Lib.hid (fields_any k)
  have HKD := Lib.hid (kids_any k)
  have HT := Lib.hid (has_any k 1 (by omega))
  have HU := Lib.hid (has_any k 2 (by omega))
  have HN := Lib.hid (has_any k 4 (by omega))
  have HIH := Lib.hid ih
  have HE := Lib.hid he
  have HDD := Lib.hid hdd
  have hm2 : m ≤ 2 := by have h3 := kidsN_le k; omega
  have hdb : d + 1 ≤ 9223372036854775807 := by omega
  rw [hm] at HKD
  rw [hT] at HT
  rw [hU] at HU
  rw [hN] at HN
  clear hT hU hN he ih hm hdd
  obtain ⟨f, hf⟩ : ∃ f, fieldsF k = f := ⟨_, rfl⟩
  rw [hf] at HFD HT HU HN HKD hfz
  clear hf hrd hR hn1 hn2 hrr hAB hlen hkb
  have g1 : decide (0 ≤ l - 1) = true := by simpa using hl2
  have g2 : decide (d ≤ 60) = true := by simpa using hd3
  subst hUok
  have hu8 := HAB.out u (List.mem_cons_of_mem _ List.mem_cons_self)
  have hw3 : wrap64 u = u := by unfold wrap64; omega
  have HABQ := Lib.hid HAB.out.tail
  have HKU := Lib.hid hu
  clear hu
  have HR4 := Lib.hid (show AllB q ∧ q.length ≤ 1000000 from ⟨HABQ.out.tail, by have h := HLEN.out; simp only [List.length_cons] at h; omega⟩)
  go_enter Try.func43, Try.ntmps43
  go_wp2_with (first
    | ((with_reducible refine wpList_alloc_blk w rfl 24 rfl (tmC 0 0 0 ⟨#[]⟩ (.slice none 0 0)) Try.zeroTm ?_); intro a0 hb hbel hsz; have I0 := HI.out.low hbel; have c0 := I0.R.cell 0; simp only [List.getElem?_cons_zero] at c0; clear hb hbel hsz))
  refine (u8_cons b rr k (u :: q) a0 I0.rd I0.rs HAB.out).mono ?_
  rintro e' a1 ⟨rfl, hrd, hc⟩
  have I1 := I0.read hrd hc
  clear hrd hc c0 I0
  go_wp2_with (first
    | ((with_reducible refine wpList_buildKind rfl (.tmp 13) rfl (k) rfl ?_))
    | ((with_reducible refine wpList_alloc_blk a1 rfl 24 rfl (tmC 0 0 0 ⟨#[]⟩ (.slice none 0 0)) Try.zeroTm ?_); intro a2 hb hbel hsz; have I2 := I1.low hbel; have HB2 := Lib.hid hb; clear hb hbel hsz)
    | ((with_reducible refine wpList_store_blk a2 rfl 24 (.tmp 5) (.tmp 14) rfl a1.heap.size 24 (tmC 0 0 0 ⟨#[]⟩ (.slice none 0 0)) (tmC k 0 0 ⟨#[]⟩ (.slice none 0 0)) HB2.out rfl rfl rfl (tmC_info _ _ _ _ _) (tmC_one _ _ _ _ _ _ _) ?_); intro a3 hb hc hs; have J3 : TmY w gr b rr a1.heap.size (tmC k 0 0 ⟨#[]⟩ (.slice none 0 0)) (l) (u :: q) (0) a3 := ⟨I2.off hc I1.ch.size, hb, I1.ch.size⟩; have c5 := J3.T.cell 0; simp only [tmC, List.getElem?_cons_zero, List.getElem?_cons_succ] at c5; clear hb hc hs))
  refine (HFD.out a3).mono ?_
  rintro e' w' ⟨rfl, rfl⟩
  clear I1 I2 HB2 c5
  generalize a1.heap.size = g5 at J3 ⊢
  have cl0 := J3.I.R.cell 1
  simp only [List.getElem?_cons_zero, List.getElem?_cons_succ] at cl0
  go_wp2_with (first
    | ((with_reducible refine wpList_store1 a3 rfl 3 (.tmp 24) (.tmp 22) rfl gr 1 64 [.pointer (some ⟨b, 0, none⟩), .int .i64 l] J3.I.R rfl (.int .i64 (l - 1)) rfl (by simp) Try.sizeInt1 rfl rfl ?_); intro a4 hb hc hs; have J4 := J3.setR hb hc; have cl := J4.I.R.cell 1; simp only [List.getElem?_cons_zero, List.getElem?_cons_succ] at cl; clear hb hc hs))
  clear cl0
  refine (need_ok gr b rr _ _ a4 J4.I.rd J4.I.R).mono ?_
  rintro e' w' ⟨rfl, rfl⟩
  clear cl
  go_wp2_with fail
  refine (HT.out a4).mono ?_
  rintro e' w' ⟨rfl, rfl⟩
  go_wp2_with fail
  refine (HU.out a4).mono ?_
  rintro e' w' ⟨rfl, rfl⟩
  have c0 := J4.I.R.cell 0
  simp only [List.getElem?_cons_zero] at c0
  go_wp2_with fail
  refine (u8_cons b rr u q a4 J4.I.rd J4.I.rs HABQ.out).mono ?_
  rintro e' a5 ⟨rfl, hrd, hc⟩
  have J5 := J4.read hrd hc
  clear hrd hc c0
  go_wp2_with (first
    | ((with_reducible refine wpList_store1 a5 rfl 3 (.tmp 70) (.tmp 69) rfl g5 1 24 _ J5.T rfl (.int .i64 (u)) ?_ (by simp [tmC]) Try.sizeInt1 rfl rfl ?_); (focus (first | rfl | exact congrArg (Value.int IntKind.i64) hw3)); intro a6 hb hc hs; have J6 : TmY w gr b rr g5 (tmC k (u) 0 ⟨#[]⟩ (.slice none 0 0)) (l - 1) (q) (0) a6 := J5.setT hb hc; have cu := J6.T.cell 1; simp only [tmC, List.getElem?_cons_zero, List.getElem?_cons_succ] at cu; clear hb hc hs))
  have hx := known_any u a6
  rw [HKU.out] at hx
  refine Calls.mono hx ?_
  clear hx
  rintro e' w' ⟨rfl, rfl⟩
  clear cu
  go_wp2_with fail
  refine (need_ok gr b rr _ _ a6 J6.I.rd J6.I.R).mono ?_
  rintro e' w' ⟨rfl, rfl⟩
  go_wp2_with fail
  refine (HN.out a6).mono ?_
  rintro e' w' ⟨rfl, rfl⟩
  go_wp2_with fail
  refine (HKD.out a6).mono ?_
  rintro e' w' ⟨rfl, rfl⟩
  go_wp2_with fail
  go_loopw [89] (fun i wr => ∃ (j : Nat) (lj : Int) (oz : Option Addr) (pz : Nat) (ts : List Tm) (rj : List Int), i = .int .i64 j ∧ j ≤ m ∧ 0 ≤ lj ∧ lj ≤ 1200 ∧ ts.length = j ∧ Hid (kidsD (decF fu) j q (l - 1) = .ok (ts, rj, lj)) ∧ Hid (AllB rj ∧ rj.length ≤ 1000000) ∧ TmY w gr b rr g5 (tmC k (u) (0) ⟨#[]⟩ (.slice oz ts.length pz)) (lj) (rj) (0) wr ∧ KidI (g5 + 1) (.slice oz ts.length pz) ts wr) (fun i _ => m - (intOf i).toNat)
  case atStart => exact ⟨0, l - 1, none, 0, [], q, rfl, Nat.zero_le _, hl2, by omega, rfl, Lib.hid rfl, HR4, J6, KidI.nil _ _⟩
  case round =>
    clear J6
    obtain ⟨j, lj, oz, pz, ts, rj, rfl, hj, hlj0, hlj1, htl, HQ, HRJ, JR, KR⟩ := hrel
    have hlt : j < m := by
      by_cases h : j < m
      · exact h
      · have e : j = m := by omega
        have h1 := HQ.out
        rw [e] at h1
        have h2 := HE.out
        rw [h1] at h2
        cases h2
    have hjz : (j : Int) < (m : Int) := by omega
    have HLT := Lib.hid (show ts.length ≤ 1000000 from by omega)
    have HTL := Lib.hid htl
    clear htl
    cases hdj : decF fu rj lj with
    | error ej =>
      have ee : ej = e := by
        have h2 := kidsD_stop j m _ _ _ _ _ _ HQ.out hdj hlt
        have h3 := HE.out
        rw [h2] at h3
        exact Except.error.inj h3
      subst ee
      have HDJ := Lib.hid hdj
      clear hdj
      go_wp2_with fail
      refine wp_region_markedP (fun w' => w'.cell? ⟨g5, 4, none⟩ = some (.slice oz ts.length pz)) 9 [0, 1, 2, 3, 4] 5 (by kernel_rfl) rfl (by kernel_rfl) (by kernel_rfl) (JR.T.cell 4) (fun c a d v w h => by cases d <;> exact h) ?_
      iterate 5 (refine' HeldL.run ?_ ?_ ?_ ?_; rotate_left 2; (simp only [List.getElem?_toArray, List.getElem?_cons_zero, List.getElem?_cons_succ]; rfl); rfl; (rintro w' k0; go_simp; with_reducible rfl); simp only [Act.put, List.setIfInBounds_toArray, List.set_cons_zero, List.set_cons_succ])
      have sm := (Sm.refl wr).drew
      have J9 := JR.low (sm.below _)
      clear sm
      generalize wr.drew = v1 at J9 ⊢
      refine' wpAnyM_one 5 (by kernel_rfl) ?_ ?_; rotate_left; (simp only [List.getElem?_toArray, List.getElem?_cons_zero, List.getElem?_cons_succ]; rfl)
      try simp only [Act.put]
      go_wp2_with fail
      have hx := HIH.out rj lj ej gr b rr v1 HDJ.out J9.I.rd J9.I.R J9.I.n1 J9.I.n2 J9.I.rs HRJ.out.1 HRJ.out.2 hlj0 hlj1
      rw [← HDD.out] at hx
      refine Calls.mono hx ?_
      clear hx
      rintro e' v2 ⟨rfl, hc⟩
      exact ⟨rfl, rfl, J9.I.ch.trans hc⟩
    | ok pj =>
      obtain ⟨kj, rk, lk⟩ := pj
      have HSN := Lib.hid (kidsD_snoc j _ _ _ _ _ _ _ _ HQ.out hdj)
      have hok := decF_ok fu rj lj kj rk lk HRJ.out.1 hdj
      have HWK := Lib.hid (show (walkM kj (d + 1) lj).1 = true ∧ (walkM kj (d + 1) lj).2 = lk from by rw [HDD.out, hok.2]; exact ⟨rfl, rfl⟩)
      have HBD := Lib.hid (walkM_bd kj (d + 1) lj HWK.out.1)
      have HRK := Lib.hid (show AllB rk ∧ rk.length ≤ 1000000 from ⟨by have h := HRJ.out.1; rw [hok.1] at h; exact h.right, by have h := HRJ.out.2; rw [hok.1, List.length_append] at h; omega⟩)
      have HAK := Lib.hid (show (bytesT kj ++ rk).length ≤ 1000000 from by rw [← hok.1]; exact HRJ.out.2)
      have JR2 : TmY w gr b rr g5 (tmC k (u) (0) ⟨#[]⟩ (.slice oz ts.length pz)) (lj) (bytesT kj ++ rk) (0) wr := by rw [← hok.1]; exact JR
      clear JR hok hdj HQ
      go_wp2_with fail
      refine wp_region_marked (fun w' => w'.cell? ⟨g5, 4, none⟩ = some (.slice oz ts.length pz)) 9 [0, 1, 2, 3, 4] 5 (by kernel_rfl) rfl (by kernel_rfl) (by kernel_rfl) (JR2.T.cell 4) ?_
      iterate 5 (refine' HeldL.run ?_ ?_ ?_ ?_; rotate_left 2; (simp only [List.getElem?_toArray, List.getElem?_cons_zero, List.getElem?_cons_succ]; rfl); rfl; (rintro w' k0; go_simp; with_reducible rfl); simp only [Act.put, List.setIfInBounds_toArray, List.set_cons_zero, List.set_cons_succ])
      have sm := (Sm.refl wr).drew
      have HV16 := And.intro (JR2.low (sm.below _)) (KR.below (sm.below _))
      clear sm
      generalize wr.drew = v15 at HV16 ⊢
      refine' wpAnyM_one 5 (by kernel_rfl) ?_ ?_; rotate_left; (simp only [List.getElem?_toArray, List.getElem?_cons_zero, List.getElem?_cons_succ]; rfl)
      try simp only [Act.put]
      go_wp2_with fail
      have hx := term_ok kj rk (d + 1) lj gr b rr v15 HWK.out.1 HV16.1.I.rd HV16.1.I.R HV16.1.I.n1 HV16.1.I.n2 HV16.1.I.rs HRK.out.1 HAK.out hlj0 hlj1 (by omega) (by omega)
      rw [HWK.out.2] at hx
      refine Calls.mono hx ?_
      clear hx
      rintro e' h17 ⟨cj, rfl, htm, hrd, hR, hc⟩
      have J18 := HV16.1.all hrd hR hc
      have K19 := HV16.2.keep hc (fun q hq e => by have h1 := HV16.1.I.l1; have h2 := HV16.1.I.l2; have h4 := HV16.1.g; omega)
      have HTM := Lib.hid (show TmC (fun q => g5 + 1 ≤ q ∧ (Value.slice oz ts.length pz).ownBlock ≠ some q) h17 cj kj from htm.mono fun q hq => ⟨by have h1 := HV16.1.T.lt; have hq : v15.heap.size ≤ q := hq; omega, fun e => by have h1 := (HV16.2.lt q e).2; have hq : v15.heap.size ≤ q := hq; omega⟩)
      clear htm hrd hR hc
      obtain ⟨aj, pj, rfl, -, -, -⟩ := HTM.out.shape
      go_wp2_with fail
      refine QK.normal ⟨fun _ => (J18.T.cell 4), ?_⟩
      refine' wpAnyM_one 6 (by kernel_rfl) ?_ ?_; rotate_left; (simp only [List.getElem?_toArray, List.getElem?_cons_zero, List.getElem?_cons_succ]; rfl)
      refine wpList_slice_t1 h17 rfl (.tmp 96) rfl (tmC kj.k kj.u kj.n kj.s (.slice aj kj.ks.length pj)) rfl rfl ?_
      intro h20 hb hbel hsz
      have J21 := J18.low hbel
      have K22 := K19.below hbel
      have HTM2 := Lib.hid (And.intro (HTM.out.below hbel) hb)
      clear hb hbel hsz
      simp only [Act.put, List.setIfInBounds_toArray, List.set_cons_zero, List.set_cons_succ]
      refine QK.normal ⟨fun _ => (J21.T.cell 4), ?_⟩
      refine' wpAnyM_one 7 (by kernel_rfl) ?_ ?_; rotate_left; (simp only [List.getElem?_toArray, List.getElem?_cons_zero, List.getElem?_cons_succ]; rfl)
      at_builtin
      refine wpList_append_T (.tmp 92) (.tmp 97) rfl rfl K22 rfl rfl HTM2.out.2 HTM2.out.1 HLT.out (by have := J21.T.lt; omega) ?_
      intro oy py h23 K25 hc hat
      have J24 : TmY w gr b rr g5 (tmC k (u) (0) ⟨#[]⟩ (.slice oz ts.length pz)) (lk) (rk) (0) h23 := by
        have h1 := J21.I.l1; have h2 := J21.I.l2; have h4 := J21.g; have h5 := J21.I.l3
        have hk : ∀ q, (Value.slice oz ts.length pz).ownBlock = some q → g5 + 1 ≤ q := fun q hq => (K22.lt q hq).1
        exact ⟨⟨J21.I.rd.keep hc (fun e => by have := hk _ e; omega) (fun e => by have := hk _ e; omega), J21.I.R.keep hc (fun e => by have := hk _ e; omega), J21.I.ch.trans' hc (fun i hi e => by have := hk _ e; omega), J21.I.n1, J21.I.n2, h1, h2, h5⟩, J21.T.keep hc (fun e => by have := hk _ e; omega), h4⟩
      clear hc hat
      simp only [Act.put, List.setIfInBounds_toArray, List.set_cons_zero, List.set_cons_succ]
      refine QK.normal ⟨fun _ => (J24.T.cell 4), ?_⟩
      refine wpAnyM_takes (by kernel_rfl) noPanic_any (fuel := 1) (J24.T.cell 4) [8] _ _ (by kernel_rfl) ?_
      refine' HeldL.run ?_ ?_ ?_ ?_; rotate_left 2; (simp only [List.getElem?_toArray, List.getElem?_cons_zero, List.getElem?_cons_succ]; rfl); rfl; (rintro w' k0; go_simp; with_reducible rfl); simp only [Act.put, List.setIfInBounds_toArray, List.set_cons_zero, List.set_cons_succ]
      refine' wpAnyM_one 9 (by kernel_rfl) ?_ ?_; rotate_left; (simp only [List.getElem?_toArray, List.getElem?_cons_zero, List.getElem?_cons_succ]; rfl)
      refine wpList_store1 h23 rfl 22 (.tmp 99) (.tmp 98) rfl g5 4 24 _ J24.T rfl (.slice oy (ts ++ [kj]).length py) rfl (by simp [tmC]) Try.sizeTs1 rfl rfl ?_
      intro h26 hb hc hs
      have J27 : TmY w gr b rr g5 (tmC k (u) (0) ⟨#[]⟩ (.slice oy (ts ++ [kj]).length py)) (lk) (rk) (0) h26 := J24.setT hb hc
      have K28 := K25.keep hc (fun q hq e => by have e : q = g5 := e; omega)
      clear hb hc hs
      try simp only [Act.put, List.setIfInBounds_toArray, List.set_cons_zero, List.set_cons_succ]
      refine QK.normal ⟨fun h => absurd h (by decide), ?_⟩
      refine wpAnyM_done (by kernel_rfl) ?_ _
      refine NoPanic.normal ?_
      go_wp2_with fail
      go_roundw
      case rel => exact ⟨j + 1, lk, oy, py, ts ++ [kj], rk, by go_num, by omega, by have := HBD.out.1; have := HWK.out.2; omega, by have := HBD.out.2; have := HWK.out.2; omega, by have h := HTL.out; simp [h], HSN, HRK, J27, K28⟩
      case measure => simp [intOf]; omega

set_option maxRecDepth 100000 in
set_option maxHeartbeats 8000000 in
theorem term_kids2 (k u n : Int) (r q q4 : List Int) (d l e : Int) (fu : Nat) (gr b rr : Nat) (w : World) (hR : Blk w gr 64 [.pointer (some ⟨b, 0, none⟩), .int .i64 l]) (hn1 : gr ≠ b) (hn2 : rr ≠ gr) (hrr : rr < w.heap.size) (hl0 : 0 ≤ l) (hl1 : l ≤ 1200) (hd1 : 1 ≤ d) (hd2 : d ≤ 61) (hkb : 1 ≤ k ∧ k ≤ 8) (hl2 : 0 ≤ l - 1) (hd3 : d ≤ 60) (hAB : AllB (k :: r)) (hlen : r.length ≤ 1000000) (hrd : Rd w b rr (k :: r) 0) (m : Nat) (hm : kidsN k = m) (hdd : d + 1 = 61 - (fu : Int)) (ih : ∀ (bs : List Int) (l e : Int) (gr b rr : Nat) (w : World), decF fu bs l = .error e → Rd w b rr bs 0 → Blk w gr 64 [.pointer (some ⟨b, 0, none⟩), .int .i64 l] → gr ≠ b → rr ≠ gr → rr < w.heap.size → AllB bs → bs.length ≤ 1000000 → 0 ≤ l → l ≤ 1200 → Calls Try.prog 43 #[.pointer (some ⟨gr, 0, none⟩), .int .i64 (61 - fu)] w (BadP w gr b e)) (hUok : r = u :: q) (hu : knownB u = true) (hNok : q = beF n 2 ++ q4) (hn : 0 ≤ n ∧ n ≤ 65535) (hU : hasB k 2 = true) (hN : hasB k 4 = true) (he : kidsD (decF fu) m q4 (l - 1) = .error e) : Calls Try.prog 43 #[.pointer (some ⟨gr, 0, none⟩), .int .i64 d] w (BadP w gr b e) := by
  have hT := (has_kinds hkb).1 hU
  have HI := Lib.hid (show TmX w gr b rr (l) (k :: r) (0) w from ⟨hrd, hR, Ch.refl _ _, hn1, hn2, hR.lt, hrd.lt, hrr⟩)
  have hw1 : wrap64 k = k := by have := hkb; unfold wrap64; omega
  have hk8 : IntKind.u8.wrap k = k := wrap_u8 (by have := hkb; omega)
  have hfz : (fieldsF k != 0) = true := by
    obtain rfl | rfl | rfl | rfl | rfl | rfl | rfl | rfl : k = 1 ∨ k = 2 ∨ k = 3 ∨ k = 4 ∨ k = 5 ∨ k = 6 ∨ k = 7 ∨ k = 8 := by omega
    all_goals decide
  have HAB := Lib.hid hAB
  have HLEN := Lib.hid hlen
  have HKB := Lib.hid hkb
  have HFD := Lib.hid (fields_any k)
  have HKD := Lib.hid (kids_any k)
  have HT := Lib.hid (has_any k 1 (by omega))
  have HU := Lib.hid (has_any k 2 (by omega))
  have HN := Lib.hid (has_any k 4 (by omega))
  have HIH := Lib.hid ih
  have HE := Lib.hid he
  have HDD := Lib.hid hdd
  have hm2 : m ≤ 2 := by have h3 := kidsN_le k; omega
  have hdb : d + 1 ≤ 9223372036854775807 := by omega
  rw [hm] at HKD
  rw [hT] at HT
  rw [hU] at HU
  rw [hN] at HN
  clear hT hU hN he ih hm hdd
  obtain ⟨f, hf⟩ : ∃ f, fieldsF k = f := ⟨_, rfl⟩
  rw [hf] at HFD HT HU HN HKD hfz
  clear hf hrd hR hn1 hn2 hrr hAB hlen hkb
  have g1 : decide (0 ≤ l - 1) = true := by simpa using hl2
  have g2 : decide (d ≤ 60) = true := by simpa using hd3
  subst hUok
  have hu8 := HAB.out u (List.mem_cons_of_mem _ List.mem_cons_self)
  have hw3 : wrap64 u = u := by unfold wrap64; omega
  have HABQ := Lib.hid HAB.out.tail
  have HKU := Lib.hid hu
  clear hu
  have HQ4 := Lib.hid hNok
  have hw4 : wrap64 n = n := by unfold wrap64; omega
  have HN8 := Lib.hid hn
  have HR4 := Lib.hid (show AllB q4 ∧ q4.length ≤ 1000000 from ⟨by have h := HABQ.out.tail; rw [hNok] at h; exact h.right, by have h := HLEN.out; rw [hNok] at h; simp only [List.length_cons, List.length_append] at h; omega⟩)
  clear hNok hn
  go_enter Try.func43, Try.ntmps43
  go_wp2_with (first
    | ((with_reducible refine wpList_alloc_blk w rfl 24 rfl (tmC 0 0 0 ⟨#[]⟩ (.slice none 0 0)) Try.zeroTm ?_); intro a0 hb hbel hsz; have I0 := HI.out.low hbel; have c0 := I0.R.cell 0; simp only [List.getElem?_cons_zero] at c0; clear hb hbel hsz))
  refine (u8_cons b rr k (u :: q) a0 I0.rd I0.rs HAB.out).mono ?_
  rintro e' a1 ⟨rfl, hrd, hc⟩
  have I1 := I0.read hrd hc
  clear hrd hc c0 I0
  go_wp2_with (first
    | ((with_reducible refine wpList_buildKind rfl (.tmp 13) rfl (k) rfl ?_))
    | ((with_reducible refine wpList_alloc_blk a1 rfl 24 rfl (tmC 0 0 0 ⟨#[]⟩ (.slice none 0 0)) Try.zeroTm ?_); intro a2 hb hbel hsz; have I2 := I1.low hbel; have HB2 := Lib.hid hb; clear hb hbel hsz)
    | ((with_reducible refine wpList_store_blk a2 rfl 24 (.tmp 5) (.tmp 14) rfl a1.heap.size 24 (tmC 0 0 0 ⟨#[]⟩ (.slice none 0 0)) (tmC k 0 0 ⟨#[]⟩ (.slice none 0 0)) HB2.out rfl rfl rfl (tmC_info _ _ _ _ _) (tmC_one _ _ _ _ _ _ _) ?_); intro a3 hb hc hs; have J3 : TmY w gr b rr a1.heap.size (tmC k 0 0 ⟨#[]⟩ (.slice none 0 0)) (l) (u :: q) (0) a3 := ⟨I2.off hc I1.ch.size, hb, I1.ch.size⟩; have c5 := J3.T.cell 0; simp only [tmC, List.getElem?_cons_zero, List.getElem?_cons_succ] at c5; clear hb hc hs))
  refine (HFD.out a3).mono ?_
  rintro e' w' ⟨rfl, rfl⟩
  clear I1 I2 HB2 c5
  generalize a1.heap.size = g5 at J3 ⊢
  have cl0 := J3.I.R.cell 1
  simp only [List.getElem?_cons_zero, List.getElem?_cons_succ] at cl0
  go_wp2_with (first
    | ((with_reducible refine wpList_store1 a3 rfl 3 (.tmp 24) (.tmp 22) rfl gr 1 64 [.pointer (some ⟨b, 0, none⟩), .int .i64 l] J3.I.R rfl (.int .i64 (l - 1)) rfl (by simp) Try.sizeInt1 rfl rfl ?_); intro a4 hb hc hs; have J4 := J3.setR hb hc; have cl := J4.I.R.cell 1; simp only [List.getElem?_cons_zero, List.getElem?_cons_succ] at cl; clear hb hc hs))
  clear cl0
  refine (need_ok gr b rr _ _ a4 J4.I.rd J4.I.R).mono ?_
  rintro e' w' ⟨rfl, rfl⟩
  clear cl
  go_wp2_with fail
  refine (HT.out a4).mono ?_
  rintro e' w' ⟨rfl, rfl⟩
  go_wp2_with fail
  refine (HU.out a4).mono ?_
  rintro e' w' ⟨rfl, rfl⟩
  have c0 := J4.I.R.cell 0
  simp only [List.getElem?_cons_zero] at c0
  go_wp2_with fail
  refine (u8_cons b rr u q a4 J4.I.rd J4.I.rs HABQ.out).mono ?_
  rintro e' a5 ⟨rfl, hrd, hc⟩
  have J5 := J4.read hrd hc
  clear hrd hc c0
  go_wp2_with (first
    | ((with_reducible refine wpList_store1 a5 rfl 3 (.tmp 70) (.tmp 69) rfl g5 1 24 _ J5.T rfl (.int .i64 (u)) ?_ (by simp [tmC]) Try.sizeInt1 rfl rfl ?_); (focus (first | rfl | exact congrArg (Value.int IntKind.i64) hw3)); intro a6 hb hc hs; have J6 : TmY w gr b rr g5 (tmC k (u) 0 ⟨#[]⟩ (.slice none 0 0)) (l - 1) (q) (0) a6 := J5.setT hb hc; have cu := J6.T.cell 1; simp only [tmC, List.getElem?_cons_zero, List.getElem?_cons_succ] at cu; clear hb hc hs))
  have hx := known_any u a6
  rw [HKU.out] at hx
  refine Calls.mono hx ?_
  clear hx
  rintro e' w' ⟨rfl, rfl⟩
  clear cu
  go_wp2_with fail
  refine (need_ok gr b rr _ _ a6 J6.I.rd J6.I.R).mono ?_
  rintro e' w' ⟨rfl, rfl⟩
  go_wp2_with fail
  refine (HN.out a6).mono ?_
  rintro e' w' ⟨rfl, rfl⟩
  have c0 := J6.I.R.cell 0
  simp only [List.getElem?_cons_zero] at c0
  go_wp2_with fail
  refine (u16_be b rr n q4 a6 (by have h := J6.I.rd; rw [HQ4.out] at h; exact h) J6.I.rs HR4.out.1 HN8.out).mono ?_
  rintro e' a7 ⟨rfl, hrd, hc⟩
  have J7 := J6.read hrd hc
  clear hrd hc c0
  go_wp2_with (first
    | ((with_reducible refine wpList_store1 a7 rfl 3 (.tmp 84) (.tmp 83) rfl g5 2 24 _ J7.T rfl (.int .i64 (n)) ?_ (by simp [tmC]) Try.sizeInt1 rfl rfl ?_); (focus (first | rfl | exact congrArg (Value.int IntKind.i64) hw4)); intro a8 hb hc hs; have J8 : TmY w gr b rr g5 (tmC k (u) (n) ⟨#[]⟩ (.slice none 0 0)) (l - 1) (q4) (0) a8 := J7.setT hb hc; clear hb hc hs))
  refine (need_ok gr b rr _ _ a8 J8.I.rd J8.I.R).mono ?_
  rintro e' w' ⟨rfl, rfl⟩
  go_wp2_with fail
  refine (HKD.out a8).mono ?_
  rintro e' w' ⟨rfl, rfl⟩
  go_wp2_with fail
  go_loopw [89] (fun i wr => ∃ (j : Nat) (lj : Int) (oz : Option Addr) (pz : Nat) (ts : List Tm) (rj : List Int), i = .int .i64 j ∧ j ≤ m ∧ 0 ≤ lj ∧ lj ≤ 1200 ∧ ts.length = j ∧ Hid (kidsD (decF fu) j q4 (l - 1) = .ok (ts, rj, lj)) ∧ Hid (AllB rj ∧ rj.length ≤ 1000000) ∧ TmY w gr b rr g5 (tmC k (u) (n) ⟨#[]⟩ (.slice oz ts.length pz)) (lj) (rj) (0) wr ∧ KidI (g5 + 1) (.slice oz ts.length pz) ts wr) (fun i _ => m - (intOf i).toNat)
  case atStart => exact ⟨0, l - 1, none, 0, [], q4, rfl, Nat.zero_le _, hl2, by omega, rfl, Lib.hid rfl, HR4, J8, KidI.nil _ _⟩
  case round =>
    clear J8
    obtain ⟨j, lj, oz, pz, ts, rj, rfl, hj, hlj0, hlj1, htl, HQ, HRJ, JR, KR⟩ := hrel
    have hlt : j < m := by
      by_cases h : j < m
      · exact h
      · have e : j = m := by omega
        have h1 := HQ.out
        rw [e] at h1
        have h2 := HE.out
        rw [h1] at h2
        cases h2
    have hjz : (j : Int) < (m : Int) := by omega
    have HLT := Lib.hid (show ts.length ≤ 1000000 from by omega)
    have HTL := Lib.hid htl
    clear htl
    cases hdj : decF fu rj lj with
    | error ej =>
      have ee : ej = e := by
        have h2 := kidsD_stop j m _ _ _ _ _ _ HQ.out hdj hlt
        have h3 := HE.out
        rw [h2] at h3
        exact Except.error.inj h3
      subst ee
      have HDJ := Lib.hid hdj
      clear hdj
      go_wp2_with fail
      refine wp_region_markedP (fun w' => w'.cell? ⟨g5, 4, none⟩ = some (.slice oz ts.length pz)) 9 [0, 1, 2, 3, 4] 5 (by kernel_rfl) rfl (by kernel_rfl) (by kernel_rfl) (JR.T.cell 4) (fun c a d v w h => by cases d <;> exact h) ?_
      iterate 5 (refine' HeldL.run ?_ ?_ ?_ ?_; rotate_left 2; (simp only [List.getElem?_toArray, List.getElem?_cons_zero, List.getElem?_cons_succ]; rfl); rfl; (rintro w' k0; go_simp; with_reducible rfl); simp only [Act.put, List.setIfInBounds_toArray, List.set_cons_zero, List.set_cons_succ])
      have sm := (Sm.refl wr).drew
      have J9 := JR.low (sm.below _)
      clear sm
      generalize wr.drew = v1 at J9 ⊢
      refine' wpAnyM_one 5 (by kernel_rfl) ?_ ?_; rotate_left; (simp only [List.getElem?_toArray, List.getElem?_cons_zero, List.getElem?_cons_succ]; rfl)
      try simp only [Act.put]
      go_wp2_with fail
      have hx := HIH.out rj lj ej gr b rr v1 HDJ.out J9.I.rd J9.I.R J9.I.n1 J9.I.n2 J9.I.rs HRJ.out.1 HRJ.out.2 hlj0 hlj1
      rw [← HDD.out] at hx
      refine Calls.mono hx ?_
      clear hx
      rintro e' v2 ⟨rfl, hc⟩
      exact ⟨rfl, rfl, J9.I.ch.trans hc⟩
    | ok pj =>
      obtain ⟨kj, rk, lk⟩ := pj
      have HSN := Lib.hid (kidsD_snoc j _ _ _ _ _ _ _ _ HQ.out hdj)
      have hok := decF_ok fu rj lj kj rk lk HRJ.out.1 hdj
      have HWK := Lib.hid (show (walkM kj (d + 1) lj).1 = true ∧ (walkM kj (d + 1) lj).2 = lk from by rw [HDD.out, hok.2]; exact ⟨rfl, rfl⟩)
      have HBD := Lib.hid (walkM_bd kj (d + 1) lj HWK.out.1)
      have HRK := Lib.hid (show AllB rk ∧ rk.length ≤ 1000000 from ⟨by have h := HRJ.out.1; rw [hok.1] at h; exact h.right, by have h := HRJ.out.2; rw [hok.1, List.length_append] at h; omega⟩)
      have HAK := Lib.hid (show (bytesT kj ++ rk).length ≤ 1000000 from by rw [← hok.1]; exact HRJ.out.2)
      have JR2 : TmY w gr b rr g5 (tmC k (u) (n) ⟨#[]⟩ (.slice oz ts.length pz)) (lj) (bytesT kj ++ rk) (0) wr := by rw [← hok.1]; exact JR
      clear JR hok hdj HQ
      go_wp2_with fail
      refine wp_region_marked (fun w' => w'.cell? ⟨g5, 4, none⟩ = some (.slice oz ts.length pz)) 9 [0, 1, 2, 3, 4] 5 (by kernel_rfl) rfl (by kernel_rfl) (by kernel_rfl) (JR2.T.cell 4) ?_
      iterate 5 (refine' HeldL.run ?_ ?_ ?_ ?_; rotate_left 2; (simp only [List.getElem?_toArray, List.getElem?_cons_zero, List.getElem?_cons_succ]; rfl); rfl; (rintro w' k0; go_simp; with_reducible rfl); simp only [Act.put, List.setIfInBounds_toArray, List.set_cons_zero, List.set_cons_succ])
      have sm := (Sm.refl wr).drew
      have HV30 := And.intro (JR2.low (sm.below _)) (KR.below (sm.below _))
      clear sm
      generalize wr.drew = v29 at HV30 ⊢
      refine' wpAnyM_one 5 (by kernel_rfl) ?_ ?_; rotate_left; (simp only [List.getElem?_toArray, List.getElem?_cons_zero, List.getElem?_cons_succ]; rfl)
      try simp only [Act.put]
      go_wp2_with fail
      have hx := term_ok kj rk (d + 1) lj gr b rr v29 HWK.out.1 HV30.1.I.rd HV30.1.I.R HV30.1.I.n1 HV30.1.I.n2 HV30.1.I.rs HRK.out.1 HAK.out hlj0 hlj1 (by omega) (by omega)
      rw [HWK.out.2] at hx
      refine Calls.mono hx ?_
      clear hx
      rintro e' h31 ⟨cj, rfl, htm, hrd, hR, hc⟩
      have J32 := HV30.1.all hrd hR hc
      have K33 := HV30.2.keep hc (fun q hq e => by have h1 := HV30.1.I.l1; have h2 := HV30.1.I.l2; have h4 := HV30.1.g; omega)
      have HTM := Lib.hid (show TmC (fun q => g5 + 1 ≤ q ∧ (Value.slice oz ts.length pz).ownBlock ≠ some q) h31 cj kj from htm.mono fun q hq => ⟨by have h1 := HV30.1.T.lt; have hq : v29.heap.size ≤ q := hq; omega, fun e => by have h1 := (HV30.2.lt q e).2; have hq : v29.heap.size ≤ q := hq; omega⟩)
      clear htm hrd hR hc
      obtain ⟨aj, pj, rfl, -, -, -⟩ := HTM.out.shape
      go_wp2_with fail
      refine QK.normal ⟨fun _ => (J32.T.cell 4), ?_⟩
      refine' wpAnyM_one 6 (by kernel_rfl) ?_ ?_; rotate_left; (simp only [List.getElem?_toArray, List.getElem?_cons_zero, List.getElem?_cons_succ]; rfl)
      refine wpList_slice_t1 h31 rfl (.tmp 96) rfl (tmC kj.k kj.u kj.n kj.s (.slice aj kj.ks.length pj)) rfl rfl ?_
      intro h34 hb hbel hsz
      have J35 := J32.low hbel
      have K36 := K33.below hbel
      have HTM2 := Lib.hid (And.intro (HTM.out.below hbel) hb)
      clear hb hbel hsz
      simp only [Act.put, List.setIfInBounds_toArray, List.set_cons_zero, List.set_cons_succ]
      refine QK.normal ⟨fun _ => (J35.T.cell 4), ?_⟩
      refine' wpAnyM_one 7 (by kernel_rfl) ?_ ?_; rotate_left; (simp only [List.getElem?_toArray, List.getElem?_cons_zero, List.getElem?_cons_succ]; rfl)
      at_builtin
      refine wpList_append_T (.tmp 92) (.tmp 97) rfl rfl K36 rfl rfl HTM2.out.2 HTM2.out.1 HLT.out (by have := J35.T.lt; omega) ?_
      intro oy py h37 K39 hc hat
      have J38 : TmY w gr b rr g5 (tmC k (u) (n) ⟨#[]⟩ (.slice oz ts.length pz)) (lk) (rk) (0) h37 := by
        have h1 := J35.I.l1; have h2 := J35.I.l2; have h4 := J35.g; have h5 := J35.I.l3
        have hk : ∀ q, (Value.slice oz ts.length pz).ownBlock = some q → g5 + 1 ≤ q := fun q hq => (K36.lt q hq).1
        exact ⟨⟨J35.I.rd.keep hc (fun e => by have := hk _ e; omega) (fun e => by have := hk _ e; omega), J35.I.R.keep hc (fun e => by have := hk _ e; omega), J35.I.ch.trans' hc (fun i hi e => by have := hk _ e; omega), J35.I.n1, J35.I.n2, h1, h2, h5⟩, J35.T.keep hc (fun e => by have := hk _ e; omega), h4⟩
      clear hc hat
      simp only [Act.put, List.setIfInBounds_toArray, List.set_cons_zero, List.set_cons_succ]
      refine QK.normal ⟨fun _ => (J38.T.cell 4), ?_⟩
      refine wpAnyM_takes (by kernel_rfl) noPanic_any (fuel := 1) (J38.T.cell 4) [8] _ _ (by kernel_rfl) ?_
      refine' HeldL.run ?_ ?_ ?_ ?_; rotate_left 2; (simp only [List.getElem?_toArray, List.getElem?_cons_zero, List.getElem?_cons_succ]; rfl); rfl; (rintro w' k0; go_simp; with_reducible rfl); simp only [Act.put, List.setIfInBounds_toArray, List.set_cons_zero, List.set_cons_succ]
      refine' wpAnyM_one 9 (by kernel_rfl) ?_ ?_; rotate_left; (simp only [List.getElem?_toArray, List.getElem?_cons_zero, List.getElem?_cons_succ]; rfl)
      refine wpList_store1 h37 rfl 22 (.tmp 99) (.tmp 98) rfl g5 4 24 _ J38.T rfl (.slice oy (ts ++ [kj]).length py) rfl (by simp [tmC]) Try.sizeTs1 rfl rfl ?_
      intro h40 hb hc hs
      have J41 : TmY w gr b rr g5 (tmC k (u) (n) ⟨#[]⟩ (.slice oy (ts ++ [kj]).length py)) (lk) (rk) (0) h40 := J38.setT hb hc
      have K42 := K39.keep hc (fun q hq e => by have e : q = g5 := e; omega)
      clear hb hc hs
      try simp only [Act.put, List.setIfInBounds_toArray, List.set_cons_zero, List.set_cons_succ]
      refine QK.normal ⟨fun h => absurd h (by decide), ?_⟩
      refine wpAnyM_done (by kernel_rfl) ?_ _
      refine NoPanic.normal ?_
      go_wp2_with fail
      go_roundw
      case rel => exact ⟨j + 1, lk, oy, py, ts ++ [kj], rk, by go_num, by omega, by have := HBD.out.1; have := HWK.out.2; omega, by have := HBD.out.2; have := HWK.out.2; omega, by have h := HTL.out; simp [h], HSN, HRK, J41, K42⟩
      case measure => simp [intOf]; omega


/-- where no term stands, or none that may be, it is told so -/
theorem term_bad : ∀ (fu : Nat) (bs : List Int) (l e : Int) (gr b rr : Nat) (w : World), fu ≤ 60 → decF fu bs l = .error e → Rd w b rr bs 0 → Blk w gr 64 [.pointer (some ⟨b, 0, none⟩), .int .i64 l] → gr ≠ b → rr ≠ gr → rr < w.heap.size → AllB bs → bs.length ≤ 1000000 → 0 ≤ l → l ≤ 1200 →
    Calls Try.prog 43 #[.pointer (some ⟨gr, 0, none⟩), .int .i64 (61 - fu)] w (BadP w gr b e) := by
  intro fu
  induction fu with
  | zero =>
    intro bs l e gr b rr w _ hd hrd hR hn1 hn2 hrr hAB hlen hl0 hl1
    cases bs with
    | nil =>
      simp only [decF, Except.error.injEq] at hd
      subst hd
      exact term_none _ l gr b rr w hR hn1 hn2 hrr hl0 hl1 (by omega) (by omega) hrd
    | cons k r =>
      simp only [decF, Except.error.injEq] at hd
      subst hd
      exact term_first k r _ l gr b rr w hR hn1 hn2 hrr hl0 hl1 (by omega) (by omega) (hAB k List.mem_cons_self) hAB hrd (.inr (.inr (by omega)))
  | succ fu ih =>
    intro bs l e gr b rr w hfu hd hrd hR hn1 hn2 hrr hAB hlen hl0 hl1
    cases bs with
    | nil =>
      simp only [decF, Except.error.injEq] at hd
      subst hd
      exact term_none _ l gr b rr w hR hn1 hn2 hrr hl0 hl1 (by omega) (by omega) hrd
    | cons k r =>
      rw [decF] at hd
      by_cases hk : fieldsF k = 0 ∨ l - 1 < 0
      · rw [if_pos hk] at hd
        cases hd
        exact term_first k r _ l gr b rr w hR hn1 hn2 hrr hl0 hl1 (by omega) (by omega) (hAB k List.mem_cons_self) hAB hrd (by omega)
      · rw [if_neg hk] at hd
        have hkb : 1 ≤ k ∧ k ≤ 8 := fieldsF_pos (fun h => hk (.inl h))
        have hl2 : 0 ≤ l - 1 := by omega
        have hlr : r.length ≤ 1000000 := by simp only [List.length_cons] at hlen; omega
        have hd3 : (61 : Int) - ((fu + 1 : Nat) : Int) ≤ 60 := by omega
        have ih' := fun bs l e gr b rr w => ih bs l e gr b rr w (by omega)
        have hdd : (61 : Int) - ((fu + 1 : Nat) : Int) + 1 = 61 - (fu : Int) := by omega
        cases ht : textD (hasB k 1) r with
        | error e1 =>
          unfold headD at hd
          rw [ht] at hd
          cases hd
          exact term_text k r _ l _ gr b rr w hR hn1 hn2 hrr hl0 hl1 (by omega) (by omega) hkb hl2 hd3 hAB hlr hrd ht
        | ok p =>
          obtain ⟨s, r1⟩ := p
          cases hu : userD (hasB k 2) r1 with
          | error e1 =>
            have hU := (userD_bad hu).1
            have hT := (has_kinds hkb).1 hU
            rw [hT] at ht
            simp only [textD, Except.ok.injEq, Prod.mk.injEq] at ht
            obtain ⟨rfl, rfl⟩ := ht
            unfold headD at hd
            rw [hT] at hd
            simp only [textD] at hd
            rw [hu] at hd
            cases hd
            exact term_user k r _ l _ gr b rr w hR hn1 hn2 hrr hl0 hl1 (by omega) (by omega) hkb hl2 hd3 hAB hlr hrd hu
          | ok p =>
            obtain ⟨u, r2⟩ := p
            cases hn : numD (hasB k 4) r2 with
            | error e1 =>
              have hN := (numD_bad hn).1
              have hU := (has_kinds hkb).2.1 hN
              have hT := (has_kinds hkb).1 hU
              rw [hT] at ht
              simp only [textD, Except.ok.injEq, Prod.mk.injEq] at ht
              obtain ⟨rfl, rfl⟩ := ht
              unfold headD at hd
              rw [hT] at hd
              simp only [textD] at hd
              rw [hu] at hd
              simp only [] at hd
              rw [hn] at hd
              cases hd
              have h3 := userD_ok hu
              rw [hU] at h3
              exact term_num k u r r2 _ l _ gr b rr w hR hn1 hn2 hrr hl0 hl1 (by omega) (by omega) hkb hl2 hd3 hAB hlr hrd (by simpa using h3.1) (knownB_iff.2 (by simpa using h3.2)) hU hn
            | ok p =>
              obtain ⟨n, r3⟩ := p
              have hh : headD k r = .ok ((s, u, n), r3) := by unfold headD; rw [ht]; simp only []; rw [hu]; simp only []; rw [hn]
              rw [hh] at hd
              simp only [] at hd
              cases hq : kidsD (decF fu) (kidsN k) r3 (l - 1) with
              | ok p => rw [hq] at hd; obtain ⟨a, a2, a3⟩ := p; cases hd
              | error e1 =>
                rw [hq] at hd
                cases hd
                have hm : 0 < kidsN k := by
                  rcases Nat.eq_zero_or_pos (kidsN k) with h | h
                  · rw [h] at hq; cases hq
                  · exact h
                have hT := (has_kinds hkb).2.2 hm
                rw [hT] at ht
                simp only [textD, Except.ok.injEq, Prod.mk.injEq] at ht
                obtain ⟨rfl, rfl⟩ := ht
                cases hU : hasB k 2 with
                | false =>
                  have hN : hasB k 4 = false := by cases h : hasB k 4 with | false => rfl | true => have := (has_kinds hkb).2.1 h; rw [hU] at this; cases this
                  rw [hU] at hu
                  rw [hN] at hn
                  simp only [userD, Except.ok.injEq, Prod.mk.injEq] at hu
                  obtain ⟨rfl, rfl⟩ := hu
                  simp only [numD, Except.ok.injEq, Prod.mk.injEq] at hn
                  obtain ⟨rfl, rfl⟩ := hn
                  exact term_kids0 k r _ l _ fu gr b rr w hR hn1 hn2 hrr hl0 hl1 (by omega) (by omega) hkb hl2 hd3 hAB hlr hrd _ rfl hdd ih' hT hU hN hq
                | true =>
                  have h3 := userD_ok hu
                  rw [hU] at h3
                  have hr2 : AllB r2 := by have h := hAB.tail; rw [h3.1] at h; exact h.right
                  cases hN : hasB k 4 with
                  | false =>
                    rw [hN] at hn
                    simp only [numD, Except.ok.injEq, Prod.mk.injEq] at hn
                    obtain ⟨rfl, rfl⟩ := hn
                    exact term_kids1 k u r r2 _ l _ fu gr b rr w hR hn1 hn2 hrr hl0 hl1 (by omega) (by omega) hkb hl2 hd3 hAB hlr hrd _ rfl hdd ih' (by simpa using h3.1) (knownB_iff.2 (by simpa using h3.2)) hU hN hq
                  | true =>
                    have h4 := numD_ok hr2 hn
                    rw [hN] at h4
                    exact term_kids2 k u n r r2 r3 _ l _ fu gr b rr w hR hn1 hn2 hrr hl0 hl1 (by omega) (by omega) hkb hl2 hd3 hAB hlr hrd _ rfl hdd ih' (by simpa using h3.1) (knownB_iff.2 (by simpa using h3.2)) (by simpa using h4.1) (by simpa using h4.2) hU hN hq


end Go.Proofs.Ytfenikoajadiaaa
