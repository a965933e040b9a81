/-
  Layer 5: the reader of terms, where it goes well, walked. Conditions: bytes; a term that may be.
-/
import Derived.Test.YtfenikoajadiaaaTmR
namespace Go.Proofs.Ytfenikoajadiaaa
open Go Go.RowKit
set_option linter.unusedSimpArgs false
set_option linter.unusedVariables false


/-- a reader of terms, its result's variable -/
structure RdI (w0 : World) (gr b rr g4 : Nat) (l : Int) (bs : List Int) (W : World) : Prop where
  rd : Rd W b rr bs 0
  R : Blk W gr 64 [.pointer (some ⟨b, 0, none⟩), .int .i64 l]
  res : Blk W g4 24 (tmC 0 0 0 ⟨#[]⟩ (.slice none 0 0))
  ch : Ch (fun k => k = gr ∨ k = b) w0 W
  n1 : gr ≠ b
  n2 : rr ≠ gr
  l1 : gr < w0.heap.size
  l2 : b < w0.heap.size
  l3 : rr < w0.heap.size
  l4 : w0.heap.size ≤ g4
section
variable {w0 W W' : World} {gr b rr g4 g5 : Nat} {l l' : Int} {bs bs' : List Int} {C5 : List Value}
theorem RdI.low (h : RdI w0 gr b rr g4 l bs W) (hb : Below W.heap.size W W') : RdI w0 gr b rr g4 l bs W' :=
  ⟨h.rd.keep (Ch.of_below (S := fun _ => False) hb (Nat.le_refl _)) (fun h => h) (fun h => h), h.R.below hb h.R.lt, h.res.below hb h.res.lt, h.ch.trans (Ch.of_below hb (Nat.le_refl _)), h.n1, h.n2, h.l1, h.l2, h.l3, h.l4⟩
theorem RdI.all (h : RdI w0 gr b rr g4 l bs W) (hr : Rd W' b rr bs' 0) (hR : Blk W' gr 64 [.pointer (some ⟨b, 0, none⟩), .int .i64 l']) (hc : Ch (fun k => k = gr ∨ k = b) W W') : RdI w0 gr b rr g4 l' bs' W' :=
  ⟨hr, hR, h.res.keep hc (fun e => by have := h.l1; have := h.l2; have := h.l4; omega), h.ch.trans hc, h.n1, h.n2, h.l1, h.l2, h.l3, h.l4⟩
theorem RdI.read (h : RdI w0 gr b rr g4 l bs W) (hr : Rd W' b rr bs' 0) (hc : Ch (· = b) W W') : RdI w0 gr b rr g4 l bs' W' :=
  h.all hr (h.R.keep hc (fun e => h.n1 e)) (hc.mono fun k hk => .inr hk)
theorem RdI.setR (h : RdI w0 gr b rr g4 l bs W) (hR : Blk W' gr 64 [.pointer (some ⟨b, 0, none⟩), .int .i64 l']) (hc : Ch (· = gr) W W') : RdI w0 gr b rr g4 l' bs W' :=
  h.all (h.rd.keep hc (fun e => h.n1 e.symm) (fun e => h.n2 e)) hR (hc.mono fun k hk => .inl hk)
theorem RdI.off (h : RdI w0 gr b rr g4 l bs W) (hc : Ch (· = g5) W W') (h4 : g4 < g5) : RdI w0 gr b rr g4 l bs W' := by
  have h1 := h.l1; have h2 := h.l2; have h3 := h.l3; have h5 := h.l4
  exact ⟨h.rd.keep hc (fun e => by have e : b = g5 := e; omega) (fun e => by have e : rr = g5 := e; omega), h.R.keep hc (fun e => by have e : gr = g5 := e; omega), h.res.keep hc (fun e => by have e : g4 = g5 := e; omega), h.ch.trans' hc (fun i hi e => by have e : i = g5 := e; omega), h.n1, h.n2, h.l1, h.l2, h.l3, h.l4⟩
/-- and the term that is made -/
structure TmI (w0 : World) (gr b rr g4 g5 : Nat) (C5 : List Value) (l : Int) (bs : List Int) (W : World) : Prop where
  I : RdI w0 gr b rr g4 l bs W
  T : Blk W g5 24 C5
  g : g4 < g5
theorem TmI.low (h : TmI w0 gr b rr g4 g5 C5 l bs W) (hb : Below W.heap.size W W') : TmI w0 gr b rr g4 g5 C5 l bs W' := ⟨h.I.low hb, h.T.below hb h.T.lt, h.g⟩
theorem TmI.ne (h : TmI w0 gr b rr g4 g5 C5 l bs W) : g5 ≠ gr ∧ g5 ≠ b := by have h1 := h.I.l1; have h2 := h.I.l2; have h3 := h.I.l4; have h4 := h.g; omega
theorem TmI.all (h : TmI w0 gr b rr g4 g5 C5 l bs W) (hr : Rd W' b rr bs' 0) (hR : Blk W' gr 64 [.pointer (some ⟨b, 0, none⟩), .int .i64 l']) (hc : Ch (fun k => k = gr ∨ k = b) W W') : TmI w0 gr b rr g4 g5 C5 l' bs' W' :=
  ⟨h.I.all hr hR hc, h.T.keep hc (fun e => by have := h.ne; omega), h.g⟩
theorem TmI.read (h : TmI w0 gr b rr g4 g5 C5 l bs W) (hr : Rd W' b rr bs' 0) (hc : Ch (· = b) W W') : TmI w0 gr b rr g4 g5 C5 l bs' W' := ⟨h.I.read hr hc, h.T.keep hc (fun e => h.ne.2 e), h.g⟩
theorem TmI.setR (h : TmI w0 gr b rr g4 g5 C5 l bs W) (hR : Blk W' gr 64 [.pointer (some ⟨b, 0, none⟩), .int .i64 l']) (hc : Ch (· = gr) W W') : TmI w0 gr b rr g4 g5 C5 l' bs W' := ⟨h.I.setR hR hc, h.T.keep hc (fun e => h.ne.1 e), h.g⟩
theorem TmI.setT {C6 : List Value} (h : TmI w0 gr b rr g4 g5 C5 l bs W) (hT : Blk W' g5 24 C6) (hc : Ch (· = g5) W W') : TmI w0 gr b rr g4 g5 C6 l bs W' := ⟨h.I.off hc h.g, hT, h.g⟩
end

theorem need_ok (gr b rr : Nat) (l : Int) (bs : List Int) (W : World) (hr : Rd W b rr bs 0) (hR : Blk W gr 64 [.pointer (some ⟨b, 0, none⟩), .int .i64 l]) :
    Calls Try.prog 58 #[.pointer (some ⟨gr, 0, none⟩), .bool true] W (fun e w' => e = .returned (.tuple #[]) ∧ W = w') := by
  have c0 := hR.cell 0
  simp only [List.getElem?_cons_zero] at c0
  have HE := Lib.hid (err_any b rr bs 0 W hr)
  clear hr hR
  go_enter Try.func58, Try.ntmps58
  go_wp2_with fail
  refine HE.out.mono ?_
  rintro e' w' ⟨rfl, rfl⟩
  go_wp2_with fail
  go_end0
  exact ⟨rfl, rfl⟩
theorem u8_cons (b rr : Nat) (x : Int) (r : List Int) (W : World) (hr : Rd W b rr (x :: r) 0) (hl : rr < W.heap.size) (hb : AllB (x :: r)) :
    Calls Try.prog 56 #[.pointer (some ⟨b, 0, none⟩)] W (fun e w' => e = .returned (.int .u8 x) ∧ Rd w' b rr r 0 ∧ Ch (· = b) W w') := by
  have ht := takeF_app [x] r 1 rfl
  have hx := hb x List.mem_cons_self
  refine u8_of b rr (x :: r) 0 W x r 0 hr hl hb ?_ ?_ ?_
  · have : (takeF (x :: r) 0 1).2.2 = [x] := by exact congrArg (fun t => t.2.2) ht
    rw [this, IntKind.wrap_u8]
    unfold numF
    simp only [List.foldl_cons, List.foldl_nil]
    unfold numStep
    simp only [IntKind.wrap_u64]
    omega
  · exact congrArg (fun t => t.1) ht
  · exact congrArg (fun t => t.2.1) ht
theorem toB_ints (s : ByteArray) : toB (ints s) = s := ints_inj (ints_toB (ints_allB s))
theorem size_nil {s : ByteArray} (h : s.size = 0) : s = ⟨#[]⟩ := by
  apply ByteArray.ext
  exact Array.eq_empty_of_size_eq_zero h
theorem kidsN_le (k : Int) : kidsN k ≤ 2 := by unfold kidsN; split; omega; split <;> omega
theorem Try.sizeStr1 : (Try.prog.info? 9).map (·.size) = some 1 := by kernel_rfl
theorem Try.sizeTs1 : (Try.prog.info? 22).map (·.size) = some 1 := by kernel_rfl
theorem wpList_buildKind0 : ∀ (k : Int) (w : World), (Instr.build 24 #[(0, .int .i64 k)]).run Try.prog w = .ok (.agg (tmC k 0 0 ⟨#[]⟩ (.slice none 0 0)).toArray) w := fun k w => by kernel_rfl
theorem wpList_buildKind {ops : Array Oper} {rest : List Oper} {op : Oper} {a : Act} {w : World} {Q : Exit → Act → World → Prop} (hgd : op.guard = none) (x0 : Operand) (ho : op.op = .build 24 #[(0, x0)])
    (k : Int) (h0 : a.eval x0 = .int .i64 k)
    (h : wpList Try.prog ops Q rest (a.put op.dst (.agg (tmC k 0 0 ⟨#[]⟩ (.slice none 0 0)).toArray)) w) : wpList Try.prog ops Q (op :: rest) a w := by
  refine wpList_plain hgd fun K hK => ?_
  have hrun : (execOp a.eval op).run Try.prog w = .ok (.value (.agg (tmC k 0 0 ⟨#[]⟩ (.slice none 0 0)).toArray)) w := by
    unfold execOp
    simp only [ho]
    rw [show (#[((0 : Nat), x0)].map fun (i, x) => (i, a.eval x)) = #[(0, .int .i64 k)] by simp [h0]]
    simp [wpList_buildKind0, Result.andThen]
  unfold Oper.wp
  rw [hrun]
  exact hK _ _ h
/-- what a term's reader answers, where it goes well -/
def TermP (w : World) (gr b rr : Nat) (t : Tm) (rest : List Int) (l : Int) (e : Ending) (w' : World) : Prop :=
  ∃ cs, e = .returned (.agg cs.toArray) ∧ TmC (w.heap.size ≤ ·) w' cs t ∧ Rd w' b rr rest 0 ∧ Blk w' gr 64 [.pointer (some ⟨b, 0, none⟩), .int .i64 l] ∧ Ch (fun k => k = gr ∨ k = b) w w'


theorem bytesT_B : ∀ (t : Tm), okT t = true → AllB (bytesT t) := by
  refine Tm.ind fun k u n s ks ih h => ?_
  rw [okT, Bool.and_eq_true] at h
  have HP := plainB_iff.1 h.1
  have hks : ∀ (ts : List Tm), (∀ t ∈ ts, AllB (bytesT t)) → AllB (bytesTL ts) := by
    intro ts
    induction ts with
    | nil => intro _ c hc; rw [bytesTL] at hc; cases hc
    | cons t ts iht =>
      intro hh c hc
      rw [bytesTL] at hc
      rcases List.mem_append.1 hc with h1 | h1
      · exact hh t List.mem_cons_self c h1
      · exact iht (fun t ht => hh t (List.mem_cons_of_mem _ ht)) c h1
  rw [bytesT]
  intro c hc
  rcases List.mem_append.1 hc with h1 | h1
  · unfold headX at h1
    rcases List.mem_append.1 h1 with h1 | h1
    · rcases List.mem_append.1 h1 with h1 | h1
      · rcases List.mem_append.1 h1 with h1 | h1
        · have := List.mem_singleton.1 h1; have := HP.pk; omega
        · split at h1
          · rcases List.mem_cons.1 h1 with rfl | h1
            · have := HP.ps; omega
            · exact ints_allB s c h1
          · cases h1
      · have h5 := HP.pu
        split at h1
        · rename_i hh; rw [if_pos hh] at h5; have := List.mem_singleton.1 h1; omega
        · cases h1
    · split at h1
      · exact beF_allB _ _ c h1
      · cases h1
  · exact hks ks (fun t ht => ih t ht (okTL_iff.1 h.2 t ht)) c h1
theorem walkL_okB {ks : List Tm} {d l lf : Int} (h : walkL ks d l = (true, lf)) : ∀ t ∈ ks, okT t = true := okTL_iff.1 (walkL_good ks (fun t _ => walkM_good t) d l (by rw [h])).1
theorem bytesTL_B {t : Tm} (h : ∀ u ∈ t.ks, okT u = true) : AllB (bytesTL t.ks) := by
  have : ∀ (ts : List Tm), (∀ t ∈ ts, okT t = true) → AllB (bytesTL ts) := by
    intro ts
    induction ts with
    | nil => intro _ c hc; rw [bytesTL] at hc; cases hc
    | cons t ts iht =>
      intro hh c hc
      rw [bytesTL] at hc
      rcases List.mem_append.1 hc with h1 | h1
      · exact bytesT_B t (hh t List.mem_cons_self) c h1
      · exact iht (fun t ht => hh t (List.mem_cons_of_mem _ ht)) c h1
  exact this _ h
theorem bytesTL_split : ∀ (ks : List Tm) (j : Nat), bytesTL ks = bytesTL (ks.take j) ++ bytesTL (ks.drop j)
  | ks, 0 => by rw [List.take_zero, List.drop_zero, bytesTL, List.nil_append]
  | [], j + 1 => by simp [bytesTL]
  | t :: ts, j + 1 => by rw [List.take_succ_cons, List.drop_succ_cons, bytesTL, bytesTL, bytesTL_split ts j, List.append_assoc]
theorem drop_facts {ks : List Tm} {d l lf : Int} {rest r4 : List Int} {kj : Tm} {j : Nat} (h : walkL ks d l = (true, lf)) (hr : AllB rest) (hd : ks.drop j = kj :: ks.drop (j + 1)) (h4 : bytesTL ks ++ rest = r4) (hl : r4.length ≤ 1000000) :
    AllB (bytesTL (ks.drop (j + 1)) ++ rest) ∧ (bytesT kj ++ (bytesTL (ks.drop (j + 1)) ++ rest)).length ≤ 1000000 := by
  constructor
  · intro c hc
    rcases List.mem_append.1 hc with h1 | h1
    · exact bytesTL_B (t := .mk 0 0 0 ⟨#[]⟩ (ks.drop (j + 1))) (fun t ht => walkL_okB h t (List.mem_of_mem_drop ht)) c h1
    · exact hr c h1
  · have e := bytesTL_split ks j
    rw [hd, bytesTL] at e
    rw [← h4, e] at hl
    simp only [List.length_append] at hl ⊢
    omega


set_option maxRecDepth 100000 in
set_option maxHeartbeats 16000000 in
theorem term_ok : ∀ (t : Tm) (rest : List Int) (d l : Int) (gr b rr : Nat) (w : World), (walkM t d l).1 = true → Rd w b rr (bytesT t ++ rest) 0 → Blk w gr 64 [.pointer (some ⟨b, 0, none⟩), .int .i64 l] → gr ≠ b → rr ≠ gr → rr < w.heap.size → AllB rest → (bytesT t ++ rest).length ≤ 1000000 → 0 ≤ l → l ≤ 1200 → 1 ≤ d → d ≤ 61 →
    Calls Try.prog 43 #[.pointer (some ⟨gr, 0, none⟩), .int .i64 d] w (TermP w gr b rr t rest (walkM t d l).2) := by
  refine Tm.ind fun k u n s ks ih rest d l gr b rr w hwk hrd hR hn1 hn2 hrr hAB hlen hl0 hl1 hd1 hd2 => ?_
  obtain ⟨lf, hlf⟩ : ∃ x, (walkM (.mk k u n s ks) d l).2 = x := ⟨_, rfl⟩
  rw [hlf]
  have hwm : walkM (.mk k u n s ks) d l = (true, lf) := Prod.ext hwk hlf
  rw [walkM] at hwm
  by_cases hbad : l - 1 < 0 ∨ 60 < d ∨ plainB k u n s ks.length = false
  · rw [if_pos hbad] at hwm; cases hwm
  rw [if_neg hbad] at hwm
  have hl2 : 0 ≤ l - 1 := by omega
  have hd3 : d ≤ 60 := by omega
  have HP := plainB_iff.1 (show plainB k u n s ks.length = true from by cases hp : plainB k u n s ks.length with | true => rfl | false => exact (hbad (.inr (.inr hp))).elim)
  have HIH := Lib.hid ih
  have HW := Lib.hid hwm
  have hk8 : IntKind.u8.wrap k = k := wrap_u8 (by have := HP.pk; omega)
  have HS := Lib.hid HP.ps
  have HPT := Lib.hid HP.pt
  have HPU := Lib.hid HP.pu
  have HPN := Lib.hid HP.pn
  have HPL := Lib.hid HP.pl
  have hfz : (fieldsF k != 0) = true := by
    have h := HP.pk
    obtain rfl | rfl | rfl | rfl | rfl | rfl | rfl | rfl : k = 1 ∨ k = 2 ∨ k = 3 ∨ k = 4 ∨ k = 5 ∨ k = 6 ∨ k = 7 ∨ k = 8 := by omega
    all_goals decide
  have HK := Lib.hid HP.pk
  have hw1 : wrap64 k = k := by have := HP.pk; unfold wrap64; omega
  have hw2 : wrap64 (s.size : Int) = (s.size : Int) := by have := HP.ps; unfold wrap64; omega
  rw [bytesT] at hrd hlen
  have HFD := Lib.hid (fields_any k)
  have HKD := Lib.hid (kids_any k)
  have HT := Lib.hid (has_any k 1 (by omega))
  have HU := Lib.hid (has_any k 2 (by omega))
  have HN := Lib.hid (has_any k 4 (by omega))
  obtain ⟨bT, hbT⟩ : ∃ b, hasB k 1 = b := ⟨_, rfl⟩
  obtain ⟨bU, hbU⟩ : ∃ b, hasB k 2 = b := ⟨_, rfl⟩
  obtain ⟨bN, hbN⟩ : ∃ b, hasB k 4 = b := ⟨_, rfl⟩
  rw [hbT] at HT HPT hrd hlen
  rw [hbU] at HU HPU hrd hlen
  rw [hbN] at HN HPN hrd hlen
  rw [← HPL.out] at HKD
  clear hbT hbU hbN HP hwk hlf hwm hbad
  obtain ⟨r4, hr4⟩ : ∃ x, bytesTL ks ++ rest = x := ⟨_, rfl⟩
  obtain ⟨r3, hr3⟩ : ∃ x, (if bN = true then beF n 2 else []) ++ r4 = x := ⟨_, rfl⟩
  obtain ⟨r2, hr2⟩ : ∃ x, (if bU = true then [u] else []) ++ r3 = x := ⟨_, rfl⟩
  obtain ⟨r1, hr1⟩ : ∃ x, (if bT = true then (s.size : Int) :: ints s else []) ++ r2 = x := ⟨_, rfl⟩
  have e0 : headX k u n s bT bU bN ++ bytesTL ks ++ rest = k :: r1 := by rw [← hr1, ← hr2, ← hr3, ← hr4]; unfold headX; simp only [List.append_assoc, List.cons_append, List.nil_append]
  rw [e0] at hrd hlen
  have HAR := Lib.hid hAB
  have hb4 : AllB r4 := by
    rw [← hr4]
    intro c hc
    rcases List.mem_append.1 hc with h | h
    · exact (bytesTL_B (t := .mk 0 0 0 ⟨#[]⟩ ks) (fun t ht => walkL_okB HW.out t ht) c h)
    · exact hAB c h
  have hb3 : AllB r3 := by
    rw [← hr3]
    intro c hc
    rcases List.mem_append.1 hc with h | h
    · split at h
      · exact beF_allB _ _ c h
      · cases h
    · exact hb4 c h
  have hb2 : AllB r2 := by
    rw [← hr2]
    intro c hc
    rcases List.mem_append.1 hc with h | h
    · have h5 := HPU.out
      split at h
      · rename_i hh
        rw [if_pos hh] at h5
        have := List.mem_singleton.1 h
        omega
      · cases h
    · exact hb3 c h
  have hb1 : AllB r1 := by
    rw [← hr1]
    intro c hc
    rcases List.mem_append.1 hc with h | h
    · split at h
      · rcases List.mem_cons.1 h with rfl | h
        · have := HS.out; omega
        · exact ints_allB s c h
      · cases h
    · exact hb2 c h
  have hb0 : AllB (k :: r1) := fun c hc => by
    rcases List.mem_cons.1 hc with rfl | h
    · have := HK.out; omega
    · exact hb1 c h
  have HAB := Lib.hid (And.intro hb0 (And.intro hb1 (And.intro hb2 (And.intro hb3 hb4))))
  have HR1 := Lib.hid hr1
  have HR2 := Lib.hid hr2
  have HR3 := Lib.hid hr3
  have HR4 := Lib.hid hr4
  have HL1 := Lib.hid (show r1.length ≤ 1000000 from by simp at hlen; omega)
  clear hb0 hb1 hb2 hb3 hb4 hr1 hr2 hr3 hr4 e0 hlen hAB
  obtain ⟨m, hm⟩ : ∃ m, ks.length = m := ⟨_, rfl⟩
  have HM := Lib.hid hm
  have hm2 : m ≤ 2 := by have h2 : ks.length = kidsN k := HPL.out; have h3 := kidsN_le k; omega
  rw [hm] at HKD
  obtain ⟨f, hf⟩ : ∃ f, fieldsF k = f := ⟨_, rfl⟩
  rw [hf] at HFD HT HU HN HKD hfz
  have HRD := Lib.hid (And.intro hrd (And.intro hR (And.intro hn1 (And.intro hn2 hrr))))
  have hdd : d + 1 ≤ 9223372036854775807 := by omega
  clear hf hm hrd hR hn1 hn2 hrr ih
  go_enter Try.func43, Try.ntmps43
  go_wp2_with (first
    | ((with_reducible refine wpList_alloc_blk w rfl 24 rfl (tmC 0 0 0 ⟨#[]⟩ (.slice none 0 0)) Try.zeroTm ?_); intro a0 hb hbel hsz; have I0 : RdI w gr b rr w.heap.size (l) (k :: r1) a0 := ⟨HRD.out.1.keep (Ch.of_below (S := fun _ => False) hbel (Nat.le_refl _)) (fun h => h) (fun h => h), HRD.out.2.1.below hbel HRD.out.2.1.lt, hb, Ch.of_below hbel (Nat.le_refl _), HRD.out.2.2.1, HRD.out.2.2.2.1, HRD.out.2.1.lt, HRD.out.1.lt, HRD.out.2.2.2.2, Nat.le_refl _⟩; have c0 := I0.R.cell 0; simp only [List.getElem?_cons_zero] at c0; clear hb hbel hsz))
  refine (u8_cons b rr k r1 a0 I0.rd (by have := I0.l3; have := I0.ch.size; omega) HAB.out.1).mono ?_
  rintro e' a1 ⟨rfl, hrd, hc⟩
  have I1 := I0.read hrd hc
  clear hrd hc c0 I0
  go_wp2_with (first
    | ((with_reducible refine wpList_buildKind rfl (.tmp 13) rfl k rfl ?_))
    | ((with_reducible refine wpList_alloc_blk a1 rfl 24 rfl (tmC 0 0 0 ⟨#[]⟩ (.slice none 0 0)) Try.zeroTm ?_); intro a2 hb hbel hsz; have I2 := I1.low hbel; have HB2 := Lib.hid hb; clear hb hbel hsz)
    | ((with_reducible refine wpList_store_blk a2 rfl 24 (.tmp 5) (.tmp 14) rfl a1.heap.size 24 (tmC 0 0 0 ⟨#[]⟩ (.slice none 0 0)) (tmC k 0 0 ⟨#[]⟩ (.slice none 0 0)) HB2.out rfl rfl rfl (tmC_info _ _ _ _ _) (tmC_one _ _ _ _ _ _ _) ?_); intro a3 hb hc hs; have J3 : TmI w gr b rr w.heap.size a1.heap.size (tmC k 0 0 ⟨#[]⟩ (.slice none 0 0)) l r1 a3 := ⟨I2.off hc I1.res.lt, hb, I1.res.lt⟩; have c5 := J3.T.cell 0; simp only [tmC, List.getElem?_cons_zero, List.getElem?_cons_succ] at c5; clear hb hc hs))
  refine (HFD.out a3).mono ?_
  rintro e' w' ⟨rfl, rfl⟩
  clear I1 I2 HB2 c5
  generalize a1.heap.size = g5 at J3 ⊢
  have cl0 := J3.I.R.cell 1
  simp only [List.getElem?_cons_zero, List.getElem?_cons_succ] at cl0
  have g1 : decide (0 ≤ l - 1) = true := by simpa using hl2
  have g2 : decide (d ≤ 60) = true := by simpa using hd3
  go_wp2_with (first
    | ((with_reducible refine wpList_store1 a3 rfl 3 (.tmp 24) (.tmp 22) rfl gr 1 64 [.pointer (some ⟨b, 0, none⟩), .int .i64 l] J3.I.R rfl (.int .i64 (l - 1)) rfl (by simp) Try.sizeInt1 rfl rfl ?_); intro a4 hb hc hs; have J4 := J3.setR hb hc; have cl := J4.I.R.cell 1; simp only [List.getElem?_cons_zero, List.getElem?_cons_succ] at cl; clear hb hc hs))
  clear cl0
  refine (need_ok gr b rr _ _ a4 J4.I.rd J4.I.R).mono ?_
  rintro e' w' ⟨rfl, rfl⟩
  clear cl
  go_wp2_with fail
  refine (HT.out a4).mono ?_
  rintro e' w' ⟨rfl, rfl⟩
  cases bT
  · have e : s = ⟨#[]⟩ := size_nil (by have h := HPT.out; simpa using h)
    have e2 : r1 = r2 := by have h := HR1.out; simpa using h.symm
    have J4' : TmI w gr b rr w.heap.size g5 (tmC k 0 0 s (.slice none 0 0)) (l - 1) (r2) a4 := by rw [← e2, e]; exact J4
    clear e e2 J4
    go_wp2_with fail
    refine (HU.out a4).mono ?_
    rintro e' w' ⟨rfl, rfl⟩
    cases bU
    · have e : u = 0 := by have h := HPU.out; simpa using h
      have e2 : r2 = r3 := by have h := HR2.out; simpa using h.symm
      have J4'' : TmI w gr b rr w.heap.size g5 (tmC k u 0 s (.slice none 0 0)) (l - 1) (r3) a4 := by rw [← e2, e]; exact J4'
      clear e e2 J4'
      go_wp2_with fail
      refine (HN.out a4).mono ?_
      rintro e' w' ⟨rfl, rfl⟩
      cases bN
      · have e : n = 0 := by have h := HPN.out; simpa using h
        have e2 : r3 = r4 := by have h := HR3.out; simpa using h.symm
        have J4'''' : TmI w gr b rr w.heap.size g5 (tmC k u n s (.slice none 0 0)) (l - 1) (r4) a4 := by rw [← e2, e]; exact J4''
        clear e e2 J4''
        go_wp2_with fail
        refine (HKD.out a4).mono ?_
        rintro e' w' ⟨rfl, rfl⟩
        go_wp2_with fail
        go_loopw [89] (fun i wr => ∃ (j : Nat) (lj : Int) (oz : Option Addr) (pz : Nat) (ts : List Tm), i = .int .i64 j ∧ j ≤ m ∧ 0 ≤ lj ∧ lj ≤ 1200 ∧ Hid (ts = ks.take j) ∧ Hid (walkL (ks.drop j) (d + 1) lj = (true, lf)) ∧ TmI w gr b rr w.heap.size g5 (tmC k u n s (.slice oz ts.length pz)) (lj) (bytesTL (ks.drop j) ++ rest) wr ∧ KidI (g5 + 1) (.slice oz ts.length pz) ts wr) (fun i _ => m - (intOf i).toNat)
        case atStart => exact ⟨0, l - 1, none, 0, [], rfl, Nat.zero_le _, hl2, by omega, Lib.hid (by rw [List.take_zero]), Lib.hid (by rw [List.drop_zero]; exact HW.out), by rw [List.drop_zero, HR4.out]; exact J4'''', KidI.nil _ _⟩
        case round =>
          clear J4''''
          obtain ⟨j, lj, oz, pz, ts, rfl, hj, hlj0, hlj1, HTS, HQ, JR, KR⟩ := hrel
          by_cases hlt : j < m
          · have hjk : j < ks.length := by rw [HM.out]; exact hlt
            have hjz : (j : Int) < (m : Int) := by omega
            have HMEM := Lib.hid (List.getElem_mem hjk)
            have HDR := Lib.hid (List.drop_eq_getElem_cons hjk)
            have HTK := Lib.hid (show ts ++ [ks[j]] = ks.take (j + 1) from by rw [HTS.out, List.take_succ_eq_append_getElem hjk])
            generalize ks[j] = kj at HMEM HDR HTK
            have HQ2 := Lib.hid (show walkL (kj :: ks.drop (j + 1)) (d + 1) lj = (true, lf) from by rw [← HDR.out]; exact HQ.out)
            have HWK := Lib.hid (show (walkM kj (d + 1) lj).1 = true from by have h := HQ2.out; rw [walkL_cons] at h; by_cases hh : (walkM kj (d + 1) lj).1 = true; exact hh; rw [if_neg hh] at h; cases h)
            have HQ3 := Lib.hid (show walkL (ks.drop (j + 1)) (d + 1) (walkM kj (d + 1) lj).2 = (true, lf) from by have h := HQ2.out; rw [walkL_cons, if_pos HWK.out] at h; exact h)
            have HBD := Lib.hid (walkM_bd kj (d + 1) lj HWK.out)
            have HLT := Lib.hid (show ts.length ≤ 1000000 from by have h1 := HTS.out; rw [h1, List.length_take]; have h2 := HPL.out; have h3 : kidsN k ≤ 2 := kidsN_le k; have h4 : ks.length = kidsN k := h2; omega)
            have JR2 : TmI w gr b rr w.heap.size g5 (tmC k u n s (.slice oz ts.length pz)) (lj) (bytesT kj ++ (bytesTL (ks.drop (j + 1)) ++ rest)) wr := by have h := JR; rw [HDR.out, bytesTL, List.append_assoc] at h; exact h
            have HAK := Lib.hid (show AllB (bytesTL (ks.drop (j + 1)) ++ rest) ∧ (bytesT kj ++ (bytesTL (ks.drop (j + 1)) ++ rest)).length ≤ 1000000 from drop_facts HW.out HAR.out HDR.out HR4.out (show r4.length ≤ 1000000 from by have h1 := HL1.out; rw [← HR1.out, ← HR2.out, ← HR3.out] at h1; simp only [List.length_append] at h1; omega))
            clear JR hjk HDR HQ HQ2
            go_wp2_with fail
            refine wp_region_marked (fun w' => w'.cell? ⟨g5, 4, none⟩ = some (.slice oz ts.length pz)) 9 [0, 1, 2, 3, 4] 5 (by kernel_rfl) rfl (by kernel_rfl) (by kernel_rfl) (JR2.T.cell 4) ?_
            iterate 5 (refine' HeldL.run ?_ ?_ ?_ ?_; rotate_left 2; (simp only [List.getElem?_toArray, List.getElem?_cons_zero, List.getElem?_cons_succ]; rfl); rfl; (rintro w' k0; go_simp; with_reducible rfl); simp only [Act.put, List.setIfInBounds_toArray, List.set_cons_zero, List.set_cons_succ])
            have sm := (Sm.refl wr).drew
            have HV2 := And.intro (JR2.low (sm.below _)) (KR.below (sm.below _))
            clear sm
            generalize wr.drew = v1 at HV2 ⊢
            refine' wpAnyM_one 5 (by kernel_rfl) ?_ ?_; rotate_left; (simp only [List.getElem?_toArray, List.getElem?_cons_zero, List.getElem?_cons_succ]; rfl)
            try simp only [Act.put]
            go_wp2_with fail
            have hx := HIH.out kj HMEM.out (bytesTL (ks.drop (j + 1)) ++ rest) (d + 1) lj gr b rr v1 HWK.out HV2.1.I.rd HV2.1.I.R HV2.1.I.n1 HV2.1.I.n2 (by have := HV2.1.I.l3; have := HV2.1.I.ch.size; omega) HAK.out.1 HAK.out.2 hlj0 hlj1 (by omega) (by omega)
            refine Calls.mono hx ?_
            clear hx
            rintro e' h3 ⟨cj, rfl, htm, hrd, hR, hc⟩
            have J4 := HV2.1.all hrd hR hc
            have K5 := HV2.2.keep hc (fun q hq e => by have h1 := HV2.1.I.l1; have h2 := HV2.1.I.l2; have h3 := HV2.1.I.l4; have h4 := HV2.1.g; omega)
            have HTM := Lib.hid (show TmC (fun q => g5 + 1 ≤ q ∧ (Value.slice oz ts.length pz).ownBlock ≠ some q) h3 cj kj from htm.mono fun q hq => ⟨by have h1 := HV2.1.T.lt; have hq : v1.heap.size ≤ q := hq; omega, fun e => by have h1 := (HV2.2.lt q e).2; have hq : v1.heap.size ≤ q := hq; omega⟩)
            clear htm hrd hR hc
            obtain ⟨aj, pj, rfl, -, -, -⟩ := HTM.out.shape
            go_wp2_with fail
            refine QK.normal ⟨fun _ => (J4.T.cell 4), ?_⟩
            refine' wpAnyM_one 6 (by kernel_rfl) ?_ ?_; rotate_left; (simp only [List.getElem?_toArray, List.getElem?_cons_zero, List.getElem?_cons_succ]; rfl)
            refine wpList_slice_t1 h3 rfl (.tmp 96) rfl (tmC kj.k kj.u kj.n kj.s (.slice aj kj.ks.length pj)) rfl rfl ?_
            intro h6 hb hbel hsz
            have J7 := J4.low hbel
            have K8 := K5.below hbel
            have HTM2 := Lib.hid (And.intro (HTM.out.below hbel) hb)
            clear hb hbel hsz
            simp only [Act.put, List.setIfInBounds_toArray, List.set_cons_zero, List.set_cons_succ]
            refine QK.normal ⟨fun _ => (J7.T.cell 4), ?_⟩
            refine' wpAnyM_one 7 (by kernel_rfl) ?_ ?_; rotate_left; (simp only [List.getElem?_toArray, List.getElem?_cons_zero, List.getElem?_cons_succ]; rfl)
            at_builtin
            refine wpList_append_T (.tmp 92) (.tmp 97) rfl rfl K8 rfl rfl HTM2.out.2 HTM2.out.1 HLT.out (by have := J7.T.lt; omega) ?_
            intro oy py h9 K11 hc hat
            have J10 : TmI w gr b rr w.heap.size g5 (tmC k u n s (.slice oz ts.length pz)) ((walkM kj (d + 1) lj).2) (bytesTL (ks.drop (j + 1)) ++ rest) h9 := by
              have h1 := J7.I.l1; have h2 := J7.I.l2; have h3 := J7.I.l4; have h4 := J7.g; have h5 := J7.I.l3
              have hk : ∀ q, (Value.slice oz ts.length pz).ownBlock = some q → g5 + 1 ≤ q := fun q hq => (K8.lt q hq).1
              exact ⟨⟨J7.I.rd.keep hc (fun e => by have := hk _ e; omega) (fun e => by have := hk _ e; omega), J7.I.R.keep hc (fun e => by have := hk _ e; omega), J7.I.res.keep hc (fun e => by have := hk _ e; omega), J7.I.ch.trans' hc (fun i hi e => by have := hk _ e; omega), J7.I.n1, J7.I.n2, h1, h2, h5, h3⟩, J7.T.keep hc (fun e => by have := hk _ e; omega), h4⟩
            clear hc hat
            simp only [Act.put, List.setIfInBounds_toArray, List.set_cons_zero, List.set_cons_succ]
            refine QK.normal ⟨fun _ => (J10.T.cell 4), ?_⟩
            refine wpAnyM_takes (by kernel_rfl) noPanic_any (fuel := 1) (J10.T.cell 4) [8] _ _ (by kernel_rfl) ?_
            refine' HeldL.run ?_ ?_ ?_ ?_; rotate_left 2; (simp only [List.getElem?_toArray, List.getElem?_cons_zero, List.getElem?_cons_succ]; rfl); rfl; (rintro w' k0; go_simp; with_reducible rfl); simp only [Act.put, List.setIfInBounds_toArray, List.set_cons_zero, List.set_cons_succ]
            refine' wpAnyM_one 9 (by kernel_rfl) ?_ ?_; rotate_left; (simp only [List.getElem?_toArray, List.getElem?_cons_zero, List.getElem?_cons_succ]; rfl)
            refine wpList_store1 h9 rfl 22 (.tmp 99) (.tmp 98) rfl g5 4 24 _ J10.T rfl (.slice oy (ts ++ [kj]).length py) rfl (by simp [tmC]) Try.sizeTs1 rfl rfl ?_
            intro h12 hb hc hs
            have J13 : TmI w gr b rr w.heap.size g5 (tmC k u n s (.slice oy (ts ++ [kj]).length py)) ((walkM kj (d + 1) lj).2) (bytesTL (ks.drop (j + 1)) ++ rest) h12 := J10.setT hb hc
            have K14 := K11.keep hc (fun q hq e => by have e : q = g5 := e; omega)
            clear hb hc hs
            try simp only [Act.put, List.setIfInBounds_toArray, List.set_cons_zero, List.set_cons_succ]
            refine QK.normal ⟨fun h => absurd h (by decide), ?_⟩
            refine wpAnyM_done (by kernel_rfl) ?_ _
            refine NoPanic.normal ?_
            go_wp2_with fail
            go_roundw
            case rel => exact ⟨j + 1, _, oy, py, ts ++ [kj], by go_num, by omega, HBD.out.1, by have := HBD.out.2; omega, HTK, HQ3, J13, K14⟩
            case measure => simp [intOf]; omega
          · have hge : ¬ (j : Int) < (m : Int) := by omega
            have HE := Lib.hid (show ts = ks ∧ lj = lf ∧ ks.drop j = [] from by
              have h1 := List.drop_of_length_le (l := ks) (i := j) (by rw [HM.out]; omega)
              have h2 := HQ.out
              rw [h1, walkL] at h2
              refine ⟨by rw [HTS.out, List.take_of_length_le (by rw [HM.out]; omega)], by simpa using h2, h1⟩)
            go_wp2_with (first
    | (with_reducible refine wpList_load_any rfl 24 (.tmp 5) rfl g5 0 rfl (tmC k u n s (.slice oz ts.length pz)) _ (rangeW_blk JR.T) Try.underlying24 rfl (tmC_info _ _ _ _ _) ?_)
    | ((with_reducible refine wpList_store_blk wr rfl 24 (.tmp 4) (.tmp 101) rfl w.heap.size 24 (tmC 0 0 0 ⟨#[]⟩ (.slice none 0 0)) (tmC k u n s (.slice oz ts.length pz)) JR.I.res rfl rfl rfl (tmC_info _ _ _ _ _) (tmC_one _ _ _ _ _ _ _) ?_); intro z1 hb hc hs; have HZ := Lib.hid (And.intro hb hc); clear hb hc hs))
            refine bodyPost_ret (results_blk Try.results43 _ _ w.heap.size _ _ rfl HZ.out.1 _ Try.underlying24 rfl (tmC_info _ _ _ _ _)) rfl ?_
            have h1 := JR.I.l1; have h2 := JR.I.l2; have h3 := JR.I.l4; have h4 := JR.g; have h5 := JR.I.l3
            have k1 := (KR.keep HZ.out.2 (fun q hq e => by have e : q = w.heap.size := e; omega)).slt.mono (G := (w.heap.size ≤ ·)) (fun q hq => by omega)
            have k2 := JR.I.rd.keep HZ.out.2 (fun e => by have e : b = w.heap.size := e; omega) (fun e => by have e : rr = w.heap.size := e; omega)
            rw [HE.out.2.2, bytesTL, List.nil_append] at k2
            have k3 := JR.I.R.keep HZ.out.2 (fun e => by have e : gr = w.heap.size := e; omega)
            rw [HE.out.2.1] at k3
            rw [HE.out.1] at k1
            refine ⟨_, rfl, TmC_iff.2 ⟨_, rfl, ?_⟩, k2, k3, JR.I.ch.trans' HZ.out.2 (fun i hi e => by have e : i = w.heap.size := e; omega)⟩
            rw [HE.out.1]; exact k1
      · have hw4 : wrap64 n = n := by have h := HPN.out; simp at h; unfold wrap64; omega
        have c0 := J4''.I.R.cell 0
        simp only [List.getElem?_cons_zero] at c0
        go_wp2_with fail
        refine (u16_be b rr n r4 a4 (by have h := J4''.I.rd; have e : r3 = beF n 2 ++ r4 := HR3.out.symm; rw [e] at h; exact h) (by have := J4''.I.l3; have := J4''.I.ch.size; omega) HAB.out.2.2.2.2 (by have h := HPN.out; simpa using h)).mono ?_
        rintro e' b15 ⟨rfl, hrd, hc⟩
        have J16 := J4''.read hrd hc
        clear hrd hc c0
        go_wp2_with (first
    | ((with_reducible refine wpList_store1 b15 rfl 3 (.tmp 84) (.tmp 83) rfl g5 2 24 _ J16.T rfl (.int .i64 n) ?_ (by simp [tmC]) Try.sizeInt1 rfl rfl ?_); (focus (first | rfl | exact congrArg (Value.int IntKind.i64) hw4)); intro b17 hb hc hs; have J18 : TmI w gr b rr w.heap.size g5 (tmC k u n s (.slice none 0 0)) (l - 1) (r4) b17 := J16.setT hb hc; clear hb hc hs))
        refine (need_ok gr b rr _ _ b17 J18.I.rd J18.I.R).mono ?_
        rintro e' w' ⟨rfl, rfl⟩
        go_wp2_with fail
        refine (HKD.out b17).mono ?_
        rintro e' w' ⟨rfl, rfl⟩
        go_wp2_with fail
        go_loopw [89] (fun i wr => ∃ (j : Nat) (lj : Int) (oz : Option Addr) (pz : Nat) (ts : List Tm), i = .int .i64 j ∧ j ≤ m ∧ 0 ≤ lj ∧ lj ≤ 1200 ∧ Hid (ts = ks.take j) ∧ Hid (walkL (ks.drop j) (d + 1) lj = (true, lf)) ∧ TmI w gr b rr w.heap.size g5 (tmC k u n s (.slice oz ts.length pz)) (lj) (bytesTL (ks.drop j) ++ rest) wr ∧ KidI (g5 + 1) (.slice oz ts.length pz) ts wr) (fun i _ => m - (intOf i).toNat)
        case atStart => exact ⟨0, l - 1, none, 0, [], rfl, Nat.zero_le _, hl2, by omega, Lib.hid (by rw [List.take_zero]), Lib.hid (by rw [List.drop_zero]; exact HW.out), by rw [List.drop_zero, HR4.out]; exact J18, KidI.nil _ _⟩
        case round =>
          clear J18
          obtain ⟨j, lj, oz, pz, ts, rfl, hj, hlj0, hlj1, HTS, HQ, JR, KR⟩ := hrel
          by_cases hlt : j < m
          · have hjk : j < ks.length := by rw [HM.out]; exact hlt
            have hjz : (j : Int) < (m : Int) := by omega
            have HMEM := Lib.hid (List.getElem_mem hjk)
            have HDR := Lib.hid (List.drop_eq_getElem_cons hjk)
            have HTK := Lib.hid (show ts ++ [ks[j]] = ks.take (j + 1) from by rw [HTS.out, List.take_succ_eq_append_getElem hjk])
            generalize ks[j] = kj at HMEM HDR HTK
            have HQ2 := Lib.hid (show walkL (kj :: ks.drop (j + 1)) (d + 1) lj = (true, lf) from by rw [← HDR.out]; exact HQ.out)
            have HWK := Lib.hid (show (walkM kj (d + 1) lj).1 = true from by have h := HQ2.out; rw [walkL_cons] at h; by_cases hh : (walkM kj (d + 1) lj).1 = true; exact hh; rw [if_neg hh] at h; cases h)
            have HQ3 := Lib.hid (show walkL (ks.drop (j + 1)) (d + 1) (walkM kj (d + 1) lj).2 = (true, lf) from by have h := HQ2.out; rw [walkL_cons, if_pos HWK.out] at h; exact h)
            have HBD := Lib.hid (walkM_bd kj (d + 1) lj HWK.out)
            have HLT := Lib.hid (show ts.length ≤ 1000000 from by have h1 := HTS.out; rw [h1, List.length_take]; have h2 := HPL.out; have h3 : kidsN k ≤ 2 := kidsN_le k; have h4 : ks.length = kidsN k := h2; omega)
            have JR2 : TmI w gr b rr w.heap.size g5 (tmC k u n s (.slice oz ts.length pz)) (lj) (bytesT kj ++ (bytesTL (ks.drop (j + 1)) ++ rest)) wr := by have h := JR; rw [HDR.out, bytesTL, List.append_assoc] at h; exact h
            have HAK := Lib.hid (show AllB (bytesTL (ks.drop (j + 1)) ++ rest) ∧ (bytesT kj ++ (bytesTL (ks.drop (j + 1)) ++ rest)).length ≤ 1000000 from drop_facts HW.out HAR.out HDR.out HR4.out (show r4.length ≤ 1000000 from by have h1 := HL1.out; rw [← HR1.out, ← HR2.out, ← HR3.out] at h1; simp only [List.length_append] at h1; omega))
            clear JR hjk HDR HQ HQ2
            go_wp2_with fail
            refine wp_region_marked (fun w' => w'.cell? ⟨g5, 4, none⟩ = some (.slice oz ts.length pz)) 9 [0, 1, 2, 3, 4] 5 (by kernel_rfl) rfl (by kernel_rfl) (by kernel_rfl) (JR2.T.cell 4) ?_
            iterate 5 (refine' HeldL.run ?_ ?_ ?_ ?_; rotate_left 2; (simp only [List.getElem?_toArray, List.getElem?_cons_zero, List.getElem?_cons_succ]; rfl); rfl; (rintro w' k0; go_simp; with_reducible rfl); simp only [Act.put, List.setIfInBounds_toArray, List.set_cons_zero, List.set_cons_succ])
            have sm := (Sm.refl wr).drew
            have HV20 := And.intro (JR2.low (sm.below _)) (KR.below (sm.below _))
            clear sm
            generalize wr.drew = v19 at HV20 ⊢
            refine' wpAnyM_one 5 (by kernel_rfl) ?_ ?_; rotate_left; (simp only [List.getElem?_toArray, List.getElem?_cons_zero, List.getElem?_cons_succ]; rfl)
            try simp only [Act.put]
            go_wp2_with fail
            have hx := HIH.out kj HMEM.out (bytesTL (ks.drop (j + 1)) ++ rest) (d + 1) lj gr b rr v19 HWK.out HV20.1.I.rd HV20.1.I.R HV20.1.I.n1 HV20.1.I.n2 (by have := HV20.1.I.l3; have := HV20.1.I.ch.size; omega) HAK.out.1 HAK.out.2 hlj0 hlj1 (by omega) (by omega)
            refine Calls.mono hx ?_
            clear hx
            rintro e' h21 ⟨cj, rfl, htm, hrd, hR, hc⟩
            have J22 := HV20.1.all hrd hR hc
            have K23 := HV20.2.keep hc (fun q hq e => by have h1 := HV20.1.I.l1; have h2 := HV20.1.I.l2; have h3 := HV20.1.I.l4; have h4 := HV20.1.g; omega)
            have HTM := Lib.hid (show TmC (fun q => g5 + 1 ≤ q ∧ (Value.slice oz ts.length pz).ownBlock ≠ some q) h21 cj kj from htm.mono fun q hq => ⟨by have h1 := HV20.1.T.lt; have hq : v19.heap.size ≤ q := hq; omega, fun e => by have h1 := (HV20.2.lt q e).2; have hq : v19.heap.size ≤ q := hq; omega⟩)
            clear htm hrd hR hc
            obtain ⟨aj, pj, rfl, -, -, -⟩ := HTM.out.shape
            go_wp2_with fail
            refine QK.normal ⟨fun _ => (J22.T.cell 4), ?_⟩
            refine' wpAnyM_one 6 (by kernel_rfl) ?_ ?_; rotate_left; (simp only [List.getElem?_toArray, List.getElem?_cons_zero, List.getElem?_cons_succ]; rfl)
            refine wpList_slice_t1 h21 rfl (.tmp 96) rfl (tmC kj.k kj.u kj.n kj.s (.slice aj kj.ks.length pj)) rfl rfl ?_
            intro h24 hb hbel hsz
            have J25 := J22.low hbel
            have K26 := K23.below hbel
            have HTM2 := Lib.hid (And.intro (HTM.out.below hbel) hb)
            clear hb hbel hsz
            simp only [Act.put, List.setIfInBounds_toArray, List.set_cons_zero, List.set_cons_succ]
            refine QK.normal ⟨fun _ => (J25.T.cell 4), ?_⟩
            refine' wpAnyM_one 7 (by kernel_rfl) ?_ ?_; rotate_left; (simp only [List.getElem?_toArray, List.getElem?_cons_zero, List.getElem?_cons_succ]; rfl)
            at_builtin
            refine wpList_append_T (.tmp 92) (.tmp 97) rfl rfl K26 rfl rfl HTM2.out.2 HTM2.out.1 HLT.out (by have := J25.T.lt; omega) ?_
            intro oy py h27 K29 hc hat
            have J28 : TmI w gr b rr w.heap.size g5 (tmC k u n s (.slice oz ts.length pz)) ((walkM kj (d + 1) lj).2) (bytesTL (ks.drop (j + 1)) ++ rest) h27 := by
              have h1 := J25.I.l1; have h2 := J25.I.l2; have h3 := J25.I.l4; have h4 := J25.g; have h5 := J25.I.l3
              have hk : ∀ q, (Value.slice oz ts.length pz).ownBlock = some q → g5 + 1 ≤ q := fun q hq => (K26.lt q hq).1
              exact ⟨⟨J25.I.rd.keep hc (fun e => by have := hk _ e; omega) (fun e => by have := hk _ e; omega), J25.I.R.keep hc (fun e => by have := hk _ e; omega), J25.I.res.keep hc (fun e => by have := hk _ e; omega), J25.I.ch.trans' hc (fun i hi e => by have := hk _ e; omega), J25.I.n1, J25.I.n2, h1, h2, h5, h3⟩, J25.T.keep hc (fun e => by have := hk _ e; omega), h4⟩
            clear hc hat
            simp only [Act.put, List.setIfInBounds_toArray, List.set_cons_zero, List.set_cons_succ]
            refine QK.normal ⟨fun _ => (J28.T.cell 4), ?_⟩
            refine wpAnyM_takes (by kernel_rfl) noPanic_any (fuel := 1) (J28.T.cell 4) [8] _ _ (by kernel_rfl) ?_
            refine' HeldL.run ?_ ?_ ?_ ?_; rotate_left 2; (simp only [List.getElem?_toArray, List.getElem?_cons_zero, List.getElem?_cons_succ]; rfl); rfl; (rintro w' k0; go_simp; with_reducible rfl); simp only [Act.put, List.setIfInBounds_toArray, List.set_cons_zero, List.set_cons_succ]
            refine' wpAnyM_one 9 (by kernel_rfl) ?_ ?_; rotate_left; (simp only [List.getElem?_toArray, List.getElem?_cons_zero, List.getElem?_cons_succ]; rfl)
            refine wpList_store1 h27 rfl 22 (.tmp 99) (.tmp 98) rfl g5 4 24 _ J28.T rfl (.slice oy (ts ++ [kj]).length py) rfl (by simp [tmC]) Try.sizeTs1 rfl rfl ?_
            intro h30 hb hc hs
            have J31 : TmI w gr b rr w.heap.size g5 (tmC k u n s (.slice oy (ts ++ [kj]).length py)) ((walkM kj (d + 1) lj).2) (bytesTL (ks.drop (j + 1)) ++ rest) h30 := J28.setT hb hc
            have K32 := K29.keep hc (fun q hq e => by have e : q = g5 := e; omega)
            clear hb hc hs
            try simp only [Act.put, List.setIfInBounds_toArray, List.set_cons_zero, List.set_cons_succ]
            refine QK.normal ⟨fun h => absurd h (by decide), ?_⟩
            refine wpAnyM_done (by kernel_rfl) ?_ _
            refine NoPanic.normal ?_
            go_wp2_with fail
            go_roundw
            case rel => exact ⟨j + 1, _, oy, py, ts ++ [kj], by go_num, by omega, HBD.out.1, by have := HBD.out.2; omega, HTK, HQ3, J31, K32⟩
            case measure => simp [intOf]; omega
          · have hge : ¬ (j : Int) < (m : Int) := by omega
            have HE := Lib.hid (show ts = ks ∧ lj = lf ∧ ks.drop j = [] from by
              have h1 := List.drop_of_length_le (l := ks) (i := j) (by rw [HM.out]; omega)
              have h2 := HQ.out
              rw [h1, walkL] at h2
              refine ⟨by rw [HTS.out, List.take_of_length_le (by rw [HM.out]; omega)], by simpa using h2, h1⟩)
            go_wp2_with (first
    | (with_reducible refine wpList_load_any rfl 24 (.tmp 5) rfl g5 0 rfl (tmC k u n s (.slice oz ts.length pz)) _ (rangeW_blk JR.T) Try.underlying24 rfl (tmC_info _ _ _ _ _) ?_)
    | ((with_reducible refine wpList_store_blk wr rfl 24 (.tmp 4) (.tmp 101) rfl w.heap.size 24 (tmC 0 0 0 ⟨#[]⟩ (.slice none 0 0)) (tmC k u n s (.slice oz ts.length pz)) JR.I.res rfl rfl rfl (tmC_info _ _ _ _ _) (tmC_one _ _ _ _ _ _ _) ?_); intro z1 hb hc hs; have HZ := Lib.hid (And.intro hb hc); clear hb hc hs))
            refine bodyPost_ret (results_blk Try.results43 _ _ w.heap.size _ _ rfl HZ.out.1 _ Try.underlying24 rfl (tmC_info _ _ _ _ _)) rfl ?_
            have h1 := JR.I.l1; have h2 := JR.I.l2; have h3 := JR.I.l4; have h4 := JR.g; have h5 := JR.I.l3
            have k1 := (KR.keep HZ.out.2 (fun q hq e => by have e : q = w.heap.size := e; omega)).slt.mono (G := (w.heap.size ≤ ·)) (fun q hq => by omega)
            have k2 := JR.I.rd.keep HZ.out.2 (fun e => by have e : b = w.heap.size := e; omega) (fun e => by have e : rr = w.heap.size := e; omega)
            rw [HE.out.2.2, bytesTL, List.nil_append] at k2
            have k3 := JR.I.R.keep HZ.out.2 (fun e => by have e : gr = w.heap.size := e; omega)
            rw [HE.out.2.1] at k3
            rw [HE.out.1] at k1
            refine ⟨_, rfl, TmC_iff.2 ⟨_, rfl, ?_⟩, k2, k3, JR.I.ch.trans' HZ.out.2 (fun i hi e => by have e : i = w.heap.size := e; omega)⟩
            rw [HE.out.1]; exact k1
    · have hw3 : wrap64 u = u := by have h := HPU.out; simp at h; unfold wrap64; omega
      have HKU := Lib.hid (show knownB u = true from by have h := HPU.out; simp at h; unfold knownB; simp; omega)
      have c0 := J4'.I.R.cell 0
      simp only [List.getElem?_cons_zero] at c0
      go_wp2_with fail
      refine (u8_cons b rr u r3 a4 (by have h := J4'.I.rd; have e : r2 = u :: r3 := HR2.out.symm; rw [e] at h; exact h) (by have := J4'.I.l3; have := J4'.I.ch.size; omega) (by have h := HAB.out.2.2.1; have e : r2 = u :: r3 := HR2.out.symm; rw [e] at h; exact h)).mono ?_
      rintro e' b33 ⟨rfl, hrd, hc⟩
      have J34 := J4'.read hrd hc
      clear hrd hc c0
      go_wp2_with (first
    | ((with_reducible refine wpList_store1 b33 rfl 3 (.tmp 70) (.tmp 69) rfl g5 1 24 _ J34.T rfl (.int .i64 u) ?_ (by simp [tmC]) Try.sizeInt1 rfl rfl ?_); (focus (first | rfl | exact congrArg (Value.int IntKind.i64) hw3)); intro b35 hb hc hs; have J36 : TmI w gr b rr w.heap.size g5 (tmC k u 0 s (.slice none 0 0)) (l - 1) (r3) b35 := J34.setT hb hc; have cu := J36.T.cell 1; simp only [tmC, List.getElem?_cons_zero, List.getElem?_cons_succ] at cu; clear hb hc hs))
      have hx := known_any u b35
      rw [HKU.out] at hx
      refine Calls.mono hx ?_
      clear hx
      rintro e' w' ⟨rfl, rfl⟩
      clear cu
      go_wp2_with fail
      refine (need_ok gr b rr _ _ b35 J36.I.rd J36.I.R).mono ?_
      rintro e' w' ⟨rfl, rfl⟩
      go_wp2_with fail
      refine (HN.out b35).mono ?_
      rintro e' w' ⟨rfl, rfl⟩
      cases bN
      · have e : n = 0 := by have h := HPN.out; simpa using h
        have e2 : r3 = r4 := by have h := HR3.out; simpa using h.symm
        have J36'' : TmI w gr b rr w.heap.size g5 (tmC k u n s (.slice none 0 0)) (l - 1) (r4) b35 := by rw [← e2, e]; exact J36
        clear e e2 J36
        go_wp2_with fail
        refine (HKD.out b35).mono ?_
        rintro e' w' ⟨rfl, rfl⟩
        go_wp2_with fail
        go_loopw [89] (fun i wr => ∃ (j : Nat) (lj : Int) (oz : Option Addr) (pz : Nat) (ts : List Tm), i = .int .i64 j ∧ j ≤ m ∧ 0 ≤ lj ∧ lj ≤ 1200 ∧ Hid (ts = ks.take j) ∧ Hid (walkL (ks.drop j) (d + 1) lj = (true, lf)) ∧ TmI w gr b rr w.heap.size g5 (tmC k u n s (.slice oz ts.length pz)) (lj) (bytesTL (ks.drop j) ++ rest) wr ∧ KidI (g5 + 1) (.slice oz ts.length pz) ts wr) (fun i _ => m - (intOf i).toNat)
        case atStart => exact ⟨0, l - 1, none, 0, [], rfl, Nat.zero_le _, hl2, by omega, Lib.hid (by rw [List.take_zero]), Lib.hid (by rw [List.drop_zero]; exact HW.out), by rw [List.drop_zero, HR4.out]; exact J36'', KidI.nil _ _⟩
        case round =>
          clear J36''
          obtain ⟨j, lj, oz, pz, ts, rfl, hj, hlj0, hlj1, HTS, HQ, JR, KR⟩ := hrel
          by_cases hlt : j < m
          · have hjk : j < ks.length := by rw [HM.out]; exact hlt
            have hjz : (j : Int) < (m : Int) := by omega
            have HMEM := Lib.hid (List.getElem_mem hjk)
            have HDR := Lib.hid (List.drop_eq_getElem_cons hjk)
            have HTK := Lib.hid (show ts ++ [ks[j]] = ks.take (j + 1) from by rw [HTS.out, List.take_succ_eq_append_getElem hjk])
            generalize ks[j] = kj at HMEM HDR HTK
            have HQ2 := Lib.hid (show walkL (kj :: ks.drop (j + 1)) (d + 1) lj = (true, lf) from by rw [← HDR.out]; exact HQ.out)
            have HWK := Lib.hid (show (walkM kj (d + 1) lj).1 = true from by have h := HQ2.out; rw [walkL_cons] at h; by_cases hh : (walkM kj (d + 1) lj).1 = true; exact hh; rw [if_neg hh] at h; cases h)
            have HQ3 := Lib.hid (show walkL (ks.drop (j + 1)) (d + 1) (walkM kj (d + 1) lj).2 = (true, lf) from by have h := HQ2.out; rw [walkL_cons, if_pos HWK.out] at h; exact h)
            have HBD := Lib.hid (walkM_bd kj (d + 1) lj HWK.out)
            have HLT := Lib.hid (show ts.length ≤ 1000000 from by have h1 := HTS.out; rw [h1, List.length_take]; have h2 := HPL.out; have h3 : kidsN k ≤ 2 := kidsN_le k; have h4 : ks.length = kidsN k := h2; omega)
            have JR2 : TmI w gr b rr w.heap.size g5 (tmC k u n s (.slice oz ts.length pz)) (lj) (bytesT kj ++ (bytesTL (ks.drop (j + 1)) ++ rest)) wr := by have h := JR; rw [HDR.out, bytesTL, List.append_assoc] at h; exact h
            have HAK := Lib.hid (show AllB (bytesTL (ks.drop (j + 1)) ++ rest) ∧ (bytesT kj ++ (bytesTL (ks.drop (j + 1)) ++ rest)).length ≤ 1000000 from drop_facts HW.out HAR.out HDR.out HR4.out (show r4.length ≤ 1000000 from by have h1 := HL1.out; rw [← HR1.out, ← HR2.out, ← HR3.out] at h1; simp only [List.length_append] at h1; omega))
            clear JR hjk HDR HQ HQ2
            go_wp2_with fail
            refine wp_region_marked (fun w' => w'.cell? ⟨g5, 4, none⟩ = some (.slice oz ts.length pz)) 9 [0, 1, 2, 3, 4] 5 (by kernel_rfl) rfl (by kernel_rfl) (by kernel_rfl) (JR2.T.cell 4) ?_
            iterate 5 (refine' HeldL.run ?_ ?_ ?_ ?_; rotate_left 2; (simp only [List.getElem?_toArray, List.getElem?_cons_zero, List.getElem?_cons_succ]; rfl); rfl; (rintro w' k0; go_simp; with_reducible rfl); simp only [Act.put, List.setIfInBounds_toArray, List.set_cons_zero, List.set_cons_succ])
            have sm := (Sm.refl wr).drew
            have HV38 := And.intro (JR2.low (sm.below _)) (KR.below (sm.below _))
            clear sm
            generalize wr.drew = v37 at HV38 ⊢
            refine' wpAnyM_one 5 (by kernel_rfl) ?_ ?_; rotate_left; (simp only [List.getElem?_toArray, List.getElem?_cons_zero, List.getElem?_cons_succ]; rfl)
            try simp only [Act.put]
            go_wp2_with fail
            have hx := HIH.out kj HMEM.out (bytesTL (ks.drop (j + 1)) ++ rest) (d + 1) lj gr b rr v37 HWK.out HV38.1.I.rd HV38.1.I.R HV38.1.I.n1 HV38.1.I.n2 (by have := HV38.1.I.l3; have := HV38.1.I.ch.size; omega) HAK.out.1 HAK.out.2 hlj0 hlj1 (by omega) (by omega)
            refine Calls.mono hx ?_
            clear hx
            rintro e' h39 ⟨cj, rfl, htm, hrd, hR, hc⟩
            have J40 := HV38.1.all hrd hR hc
            have K41 := HV38.2.keep hc (fun q hq e => by have h1 := HV38.1.I.l1; have h2 := HV38.1.I.l2; have h3 := HV38.1.I.l4; have h4 := HV38.1.g; omega)
            have HTM := Lib.hid (show TmC (fun q => g5 + 1 ≤ q ∧ (Value.slice oz ts.length pz).ownBlock ≠ some q) h39 cj kj from htm.mono fun q hq => ⟨by have h1 := HV38.1.T.lt; have hq : v37.heap.size ≤ q := hq; omega, fun e => by have h1 := (HV38.2.lt q e).2; have hq : v37.heap.size ≤ q := hq; omega⟩)
            clear htm hrd hR hc
            obtain ⟨aj, pj, rfl, -, -, -⟩ := HTM.out.shape
            go_wp2_with fail
            refine QK.normal ⟨fun _ => (J40.T.cell 4), ?_⟩
            refine' wpAnyM_one 6 (by kernel_rfl) ?_ ?_; rotate_left; (simp only [List.getElem?_toArray, List.getElem?_cons_zero, List.getElem?_cons_succ]; rfl)
            refine wpList_slice_t1 h39 rfl (.tmp 96) rfl (tmC kj.k kj.u kj.n kj.s (.slice aj kj.ks.length pj)) rfl rfl ?_
            intro h42 hb hbel hsz
            have J43 := J40.low hbel
            have K44 := K41.below hbel
            have HTM2 := Lib.hid (And.intro (HTM.out.below hbel) hb)
            clear hb hbel hsz
            simp only [Act.put, List.setIfInBounds_toArray, List.set_cons_zero, List.set_cons_succ]
            refine QK.normal ⟨fun _ => (J43.T.cell 4), ?_⟩
            refine' wpAnyM_one 7 (by kernel_rfl) ?_ ?_; rotate_left; (simp only [List.getElem?_toArray, List.getElem?_cons_zero, List.getElem?_cons_succ]; rfl)
            at_builtin
            refine wpList_append_T (.tmp 92) (.tmp 97) rfl rfl K44 rfl rfl HTM2.out.2 HTM2.out.1 HLT.out (by have := J43.T.lt; omega) ?_
            intro oy py h45 K47 hc hat
            have J46 : TmI w gr b rr w.heap.size g5 (tmC k u n s (.slice oz ts.length pz)) ((walkM kj (d + 1) lj).2) (bytesTL (ks.drop (j + 1)) ++ rest) h45 := by
              have h1 := J43.I.l1; have h2 := J43.I.l2; have h3 := J43.I.l4; have h4 := J43.g; have h5 := J43.I.l3
              have hk : ∀ q, (Value.slice oz ts.length pz).ownBlock = some q → g5 + 1 ≤ q := fun q hq => (K44.lt q hq).1
              exact ⟨⟨J43.I.rd.keep hc (fun e => by have := hk _ e; omega) (fun e => by have := hk _ e; omega), J43.I.R.keep hc (fun e => by have := hk _ e; omega), J43.I.res.keep hc (fun e => by have := hk _ e; omega), J43.I.ch.trans' hc (fun i hi e => by have := hk _ e; omega), J43.I.n1, J43.I.n2, h1, h2, h5, h3⟩, J43.T.keep hc (fun e => by have := hk _ e; omega), h4⟩
            clear hc hat
            simp only [Act.put, List.setIfInBounds_toArray, List.set_cons_zero, List.set_cons_succ]
            refine QK.normal ⟨fun _ => (J46.T.cell 4), ?_⟩
            refine wpAnyM_takes (by kernel_rfl) noPanic_any (fuel := 1) (J46.T.cell 4) [8] _ _ (by kernel_rfl) ?_
            refine' HeldL.run ?_ ?_ ?_ ?_; rotate_left 2; (simp only [List.getElem?_toArray, List.getElem?_cons_zero, List.getElem?_cons_succ]; rfl); rfl; (rintro w' k0; go_simp; with_reducible rfl); simp only [Act.put, List.setIfInBounds_toArray, List.set_cons_zero, List.set_cons_succ]
            refine' wpAnyM_one 9 (by kernel_rfl) ?_ ?_; rotate_left; (simp only [List.getElem?_toArray, List.getElem?_cons_zero, List.getElem?_cons_succ]; rfl)
            refine wpList_store1 h45 rfl 22 (.tmp 99) (.tmp 98) rfl g5 4 24 _ J46.T rfl (.slice oy (ts ++ [kj]).length py) rfl (by simp [tmC]) Try.sizeTs1 rfl rfl ?_
            intro h48 hb hc hs
            have J49 : TmI w gr b rr w.heap.size g5 (tmC k u n s (.slice oy (ts ++ [kj]).length py)) ((walkM kj (d + 1) lj).2) (bytesTL (ks.drop (j + 1)) ++ rest) h48 := J46.setT hb hc
            have K50 := K47.keep hc (fun q hq e => by have e : q = g5 := e; omega)
            clear hb hc hs
            try simp only [Act.put, List.setIfInBounds_toArray, List.set_cons_zero, List.set_cons_succ]
            refine QK.normal ⟨fun h => absurd h (by decide), ?_⟩
            refine wpAnyM_done (by kernel_rfl) ?_ _
            refine NoPanic.normal ?_
            go_wp2_with fail
            go_roundw
            case rel => exact ⟨j + 1, _, oy, py, ts ++ [kj], by go_num, by omega, HBD.out.1, by have := HBD.out.2; omega, HTK, HQ3, J49, K50⟩
            case measure => simp [intOf]; omega
          · have hge : ¬ (j : Int) < (m : Int) := by omega
            have HE := Lib.hid (show ts = ks ∧ lj = lf ∧ ks.drop j = [] from by
              have h1 := List.drop_of_length_le (l := ks) (i := j) (by rw [HM.out]; omega)
              have h2 := HQ.out
              rw [h1, walkL] at h2
              refine ⟨by rw [HTS.out, List.take_of_length_le (by rw [HM.out]; omega)], by simpa using h2, h1⟩)
            go_wp2_with (first
    | (with_reducible refine wpList_load_any rfl 24 (.tmp 5) rfl g5 0 rfl (tmC k u n s (.slice oz ts.length pz)) _ (rangeW_blk JR.T) Try.underlying24 rfl (tmC_info _ _ _ _ _) ?_)
    | ((with_reducible refine wpList_store_blk wr rfl 24 (.tmp 4) (.tmp 101) rfl w.heap.size 24 (tmC 0 0 0 ⟨#[]⟩ (.slice none 0 0)) (tmC k u n s (.slice oz ts.length pz)) JR.I.res rfl rfl rfl (tmC_info _ _ _ _ _) (tmC_one _ _ _ _ _ _ _) ?_); intro z1 hb hc hs; have HZ := Lib.hid (And.intro hb hc); clear hb hc hs))
            refine bodyPost_ret (results_blk Try.results43 _ _ w.heap.size _ _ rfl HZ.out.1 _ Try.underlying24 rfl (tmC_info _ _ _ _ _)) rfl ?_
            have h1 := JR.I.l1; have h2 := JR.I.l2; have h3 := JR.I.l4; have h4 := JR.g; have h5 := JR.I.l3
            have k1 := (KR.keep HZ.out.2 (fun q hq e => by have e : q = w.heap.size := e; omega)).slt.mono (G := (w.heap.size ≤ ·)) (fun q hq => by omega)
            have k2 := JR.I.rd.keep HZ.out.2 (fun e => by have e : b = w.heap.size := e; omega) (fun e => by have e : rr = w.heap.size := e; omega)
            rw [HE.out.2.2, bytesTL, List.nil_append] at k2
            have k3 := JR.I.R.keep HZ.out.2 (fun e => by have e : gr = w.heap.size := e; omega)
            rw [HE.out.2.1] at k3
            rw [HE.out.1] at k1
            refine ⟨_, rfl, TmC_iff.2 ⟨_, rfl, ?_⟩, k2, k3, JR.I.ch.trans' HZ.out.2 (fun i hi e => by have e : i = w.heap.size := e; omega)⟩
            rw [HE.out.1]; exact k1
      · have hw4 : wrap64 n = n := by have h := HPN.out; simp at h; unfold wrap64; omega
        have c0 := J36.I.R.cell 0
        simp only [List.getElem?_cons_zero] at c0
        go_wp2_with fail
        refine (u16_be b rr n r4 b35 (by have h := J36.I.rd; have e : r3 = beF n 2 ++ r4 := HR3.out.symm; rw [e] at h; exact h) (by have := J36.I.l3; have := J36.I.ch.size; omega) HAB.out.2.2.2.2 (by have h := HPN.out; simpa using h)).mono ?_
        rintro e' b51 ⟨rfl, hrd, hc⟩
        have J52 := J36.read hrd hc
        clear hrd hc c0
        go_wp2_with (first
    | ((with_reducible refine wpList_store1 b51 rfl 3 (.tmp 84) (.tmp 83) rfl g5 2 24 _ J52.T rfl (.int .i64 n) ?_ (by simp [tmC]) Try.sizeInt1 rfl rfl ?_); (focus (first | rfl | exact congrArg (Value.int IntKind.i64) hw4)); intro b53 hb hc hs; have J54 : TmI w gr b rr w.heap.size g5 (tmC k u n s (.slice none 0 0)) (l - 1) (r4) b53 := J52.setT hb hc; clear hb hc hs))
        refine (need_ok gr b rr _ _ b53 J54.I.rd J54.I.R).mono ?_
        rintro e' w' ⟨rfl, rfl⟩
        go_wp2_with fail
        refine (HKD.out b53).mono ?_
        rintro e' w' ⟨rfl, rfl⟩
        go_wp2_with fail
        go_loopw [89] (fun i wr => ∃ (j : Nat) (lj : Int) (oz : Option Addr) (pz : Nat) (ts : List Tm), i = .int .i64 j ∧ j ≤ m ∧ 0 ≤ lj ∧ lj ≤ 1200 ∧ Hid (ts = ks.take j) ∧ Hid (walkL (ks.drop j) (d + 1) lj = (true, lf)) ∧ TmI w gr b rr w.heap.size g5 (tmC k u n s (.slice oz ts.length pz)) (lj) (bytesTL (ks.drop j) ++ rest) wr ∧ KidI (g5 + 1) (.slice oz ts.length pz) ts wr) (fun i _ => m - (intOf i).toNat)
        case atStart => exact ⟨0, l - 1, none, 0, [], rfl, Nat.zero_le _, hl2, by omega, Lib.hid (by rw [List.take_zero]), Lib.hid (by rw [List.drop_zero]; exact HW.out), by rw [List.drop_zero, HR4.out]; exact J54, KidI.nil _ _⟩
        case round =>
          clear J54
          obtain ⟨j, lj, oz, pz, ts, rfl, hj, hlj0, hlj1, HTS, HQ, JR, KR⟩ := hrel
          by_cases hlt : j < m
          · have hjk : j < ks.length := by rw [HM.out]; exact hlt
            have hjz : (j : Int) < (m : Int) := by omega
            have HMEM := Lib.hid (List.getElem_mem hjk)
            have HDR := Lib.hid (List.drop_eq_getElem_cons hjk)
            have HTK := Lib.hid (show ts ++ [ks[j]] = ks.take (j + 1) from by rw [HTS.out, List.take_succ_eq_append_getElem hjk])
            generalize ks[j] = kj at HMEM HDR HTK
            have HQ2 := Lib.hid (show walkL (kj :: ks.drop (j + 1)) (d + 1) lj = (true, lf) from by rw [← HDR.out]; exact HQ.out)
            have HWK := Lib.hid (show (walkM kj (d + 1) lj).1 = true from by have h := HQ2.out; rw [walkL_cons] at h; by_cases hh : (walkM kj (d + 1) lj).1 = true; exact hh; rw [if_neg hh] at h; cases h)
            have HQ3 := Lib.hid (show walkL (ks.drop (j + 1)) (d + 1) (walkM kj (d + 1) lj).2 = (true, lf) from by have h := HQ2.out; rw [walkL_cons, if_pos HWK.out] at h; exact h)
            have HBD := Lib.hid (walkM_bd kj (d + 1) lj HWK.out)
            have HLT := Lib.hid (show ts.length ≤ 1000000 from by have h1 := HTS.out; rw [h1, List.length_take]; have h2 := HPL.out; have h3 : kidsN k ≤ 2 := kidsN_le k; have h4 : ks.length = kidsN k := h2; omega)
            have JR2 : TmI w gr b rr w.heap.size g5 (tmC k u n s (.slice oz ts.length pz)) (lj) (bytesT kj ++ (bytesTL (ks.drop (j + 1)) ++ rest)) wr := by have h := JR; rw [HDR.out, bytesTL, List.append_assoc] at h; exact h
            have HAK := Lib.hid (show AllB (bytesTL (ks.drop (j + 1)) ++ rest) ∧ (bytesT kj ++ (bytesTL (ks.drop (j + 1)) ++ rest)).length ≤ 1000000 from drop_facts HW.out HAR.out HDR.out HR4.out (show r4.length ≤ 1000000 from by have h1 := HL1.out; rw [← HR1.out, ← HR2.out, ← HR3.out] at h1; simp only [List.length_append] at h1; omega))
            clear JR hjk HDR HQ HQ2
            go_wp2_with fail
            refine wp_region_marked (fun w' => w'.cell? ⟨g5, 4, none⟩ = some (.slice oz ts.length pz)) 9 [0, 1, 2, 3, 4] 5 (by kernel_rfl) rfl (by kernel_rfl) (by kernel_rfl) (JR2.T.cell 4) ?_
            iterate 5 (refine' HeldL.run ?_ ?_ ?_ ?_; rotate_left 2; (simp only [List.getElem?_toArray, List.getElem?_cons_zero, List.getElem?_cons_succ]; rfl); rfl; (rintro w' k0; go_simp; with_reducible rfl); simp only [Act.put, List.setIfInBounds_toArray, List.set_cons_zero, List.set_cons_succ])
            have sm := (Sm.refl wr).drew
            have HV56 := And.intro (JR2.low (sm.below _)) (KR.below (sm.below _))
            clear sm
            generalize wr.drew = v55 at HV56 ⊢
            refine' wpAnyM_one 5 (by kernel_rfl) ?_ ?_; rotate_left; (simp only [List.getElem?_toArray, List.getElem?_cons_zero, List.getElem?_cons_succ]; rfl)
            try simp only [Act.put]
            go_wp2_with fail
            have hx := HIH.out kj HMEM.out (bytesTL (ks.drop (j + 1)) ++ rest) (d + 1) lj gr b rr v55 HWK.out HV56.1.I.rd HV56.1.I.R HV56.1.I.n1 HV56.1.I.n2 (by have := HV56.1.I.l3; have := HV56.1.I.ch.size; omega) HAK.out.1 HAK.out.2 hlj0 hlj1 (by omega) (by omega)
            refine Calls.mono hx ?_
            clear hx
            rintro e' h57 ⟨cj, rfl, htm, hrd, hR, hc⟩
            have J58 := HV56.1.all hrd hR hc
            have K59 := HV56.2.keep hc (fun q hq e => by have h1 := HV56.1.I.l1; have h2 := HV56.1.I.l2; have h3 := HV56.1.I.l4; have h4 := HV56.1.g; omega)
            have HTM := Lib.hid (show TmC (fun q => g5 + 1 ≤ q ∧ (Value.slice oz ts.length pz).ownBlock ≠ some q) h57 cj kj from htm.mono fun q hq => ⟨by have h1 := HV56.1.T.lt; have hq : v55.heap.size ≤ q := hq; omega, fun e => by have h1 := (HV56.2.lt q e).2; have hq : v55.heap.size ≤ q := hq; omega⟩)
            clear htm hrd hR hc
            obtain ⟨aj, pj, rfl, -, -, -⟩ := HTM.out.shape
            go_wp2_with fail
            refine QK.normal ⟨fun _ => (J58.T.cell 4), ?_⟩
            refine' wpAnyM_one 6 (by kernel_rfl) ?_ ?_; rotate_left; (simp only [List.getElem?_toArray, List.getElem?_cons_zero, List.getElem?_cons_succ]; rfl)
            refine wpList_slice_t1 h57 rfl (.tmp 96) rfl (tmC kj.k kj.u kj.n kj.s (.slice aj kj.ks.length pj)) rfl rfl ?_
            intro h60 hb hbel hsz
            have J61 := J58.low hbel
            have K62 := K59.below hbel
            have HTM2 := Lib.hid (And.intro (HTM.out.below hbel) hb)
            clear hb hbel hsz
            simp only [Act.put, List.setIfInBounds_toArray, List.set_cons_zero, List.set_cons_succ]
            refine QK.normal ⟨fun _ => (J61.T.cell 4), ?_⟩
            refine' wpAnyM_one 7 (by kernel_rfl) ?_ ?_; rotate_left; (simp only [List.getElem?_toArray, List.getElem?_cons_zero, List.getElem?_cons_succ]; rfl)
            at_builtin
            refine wpList_append_T (.tmp 92) (.tmp 97) rfl rfl K62 rfl rfl HTM2.out.2 HTM2.out.1 HLT.out (by have := J61.T.lt; omega) ?_
            intro oy py h63 K65 hc hat
            have J64 : TmI w gr b rr w.heap.size g5 (tmC k u n s (.slice oz ts.length pz)) ((walkM kj (d + 1) lj).2) (bytesTL (ks.drop (j + 1)) ++ rest) h63 := by
              have h1 := J61.I.l1; have h2 := J61.I.l2; have h3 := J61.I.l4; have h4 := J61.g; have h5 := J61.I.l3
              have hk : ∀ q, (Value.slice oz ts.length pz).ownBlock = some q → g5 + 1 ≤ q := fun q hq => (K62.lt q hq).1
              exact ⟨⟨J61.I.rd.keep hc (fun e => by have := hk _ e; omega) (fun e => by have := hk _ e; omega), J61.I.R.keep hc (fun e => by have := hk _ e; omega), J61.I.res.keep hc (fun e => by have := hk _ e; omega), J61.I.ch.trans' hc (fun i hi e => by have := hk _ e; omega), J61.I.n1, J61.I.n2, h1, h2, h5, h3⟩, J61.T.keep hc (fun e => by have := hk _ e; omega), h4⟩
            clear hc hat
            simp only [Act.put, List.setIfInBounds_toArray, List.set_cons_zero, List.set_cons_succ]
            refine QK.normal ⟨fun _ => (J64.T.cell 4), ?_⟩
            refine wpAnyM_takes (by kernel_rfl) noPanic_any (fuel := 1) (J64.T.cell 4) [8] _ _ (by kernel_rfl) ?_
            refine' HeldL.run ?_ ?_ ?_ ?_; rotate_left 2; (simp only [List.getElem?_toArray, List.getElem?_cons_zero, List.getElem?_cons_succ]; rfl); rfl; (rintro w' k0; go_simp; with_reducible rfl); simp only [Act.put, List.setIfInBounds_toArray, List.set_cons_zero, List.set_cons_succ]
            refine' wpAnyM_one 9 (by kernel_rfl) ?_ ?_; rotate_left; (simp only [List.getElem?_toArray, List.getElem?_cons_zero, List.getElem?_cons_succ]; rfl)
            refine wpList_store1 h63 rfl 22 (.tmp 99) (.tmp 98) rfl g5 4 24 _ J64.T rfl (.slice oy (ts ++ [kj]).length py) rfl (by simp [tmC]) Try.sizeTs1 rfl rfl ?_
            intro h66 hb hc hs
            have J67 : TmI w gr b rr w.heap.size g5 (tmC k u n s (.slice oy (ts ++ [kj]).length py)) ((walkM kj (d + 1) lj).2) (bytesTL (ks.drop (j + 1)) ++ rest) h66 := J64.setT hb hc
            have K68 := K65.keep hc (fun q hq e => by have e : q = g5 := e; omega)
            clear hb hc hs
            try simp only [Act.put, List.setIfInBounds_toArray, List.set_cons_zero, List.set_cons_succ]
            refine QK.normal ⟨fun h => absurd h (by decide), ?_⟩
            refine wpAnyM_done (by kernel_rfl) ?_ _
            refine NoPanic.normal ?_
            go_wp2_with fail
            go_roundw
            case rel => exact ⟨j + 1, _, oy, py, ts ++ [kj], by go_num, by omega, HBD.out.1, by have := HBD.out.2; omega, HTK, HQ3, J67, K68⟩
            case measure => simp [intOf]; omega
          · have hge : ¬ (j : Int) < (m : Int) := by omega
            have HE := Lib.hid (show ts = ks ∧ lj = lf ∧ ks.drop j = [] from by
              have h1 := List.drop_of_length_le (l := ks) (i := j) (by rw [HM.out]; omega)
              have h2 := HQ.out
              rw [h1, walkL] at h2
              refine ⟨by rw [HTS.out, List.take_of_length_le (by rw [HM.out]; omega)], by simpa using h2, h1⟩)
            go_wp2_with (first
    | (with_reducible refine wpList_load_any rfl 24 (.tmp 5) rfl g5 0 rfl (tmC k u n s (.slice oz ts.length pz)) _ (rangeW_blk JR.T) Try.underlying24 rfl (tmC_info _ _ _ _ _) ?_)
    | ((with_reducible refine wpList_store_blk wr rfl 24 (.tmp 4) (.tmp 101) rfl w.heap.size 24 (tmC 0 0 0 ⟨#[]⟩ (.slice none 0 0)) (tmC k u n s (.slice oz ts.length pz)) JR.I.res rfl rfl rfl (tmC_info _ _ _ _ _) (tmC_one _ _ _ _ _ _ _) ?_); intro z1 hb hc hs; have HZ := Lib.hid (And.intro hb hc); clear hb hc hs))
            refine bodyPost_ret (results_blk Try.results43 _ _ w.heap.size _ _ rfl HZ.out.1 _ Try.underlying24 rfl (tmC_info _ _ _ _ _)) rfl ?_
            have h1 := JR.I.l1; have h2 := JR.I.l2; have h3 := JR.I.l4; have h4 := JR.g; have h5 := JR.I.l3
            have k1 := (KR.keep HZ.out.2 (fun q hq e => by have e : q = w.heap.size := e; omega)).slt.mono (G := (w.heap.size ≤ ·)) (fun q hq => by omega)
            have k2 := JR.I.rd.keep HZ.out.2 (fun e => by have e : b = w.heap.size := e; omega) (fun e => by have e : rr = w.heap.size := e; omega)
            rw [HE.out.2.2, bytesTL, List.nil_append] at k2
            have k3 := JR.I.R.keep HZ.out.2 (fun e => by have e : gr = w.heap.size := e; omega)
            rw [HE.out.2.1] at k3
            rw [HE.out.1] at k1
            refine ⟨_, rfl, TmC_iff.2 ⟨_, rfl, ?_⟩, k2, k3, JR.I.ch.trans' HZ.out.2 (fun i hi e => by have e : i = w.heap.size := e; omega)⟩
            rw [HE.out.1]; exact k1
  · have e1 : r1 = (s.size : Int) :: (ints s ++ r2) := HR1.out.symm
    have HSB := Lib.hid (show AllB ((s.size : Int) :: (ints s ++ r2)) ∧ (ints s ++ r2).length ≤ 1000000 from ⟨by have h := HAB.out.2.1; rw [e1] at h; exact h, by have h := HL1.out; rw [e1] at h; simp only [List.length_cons] at h; omega⟩)
    have J5 : TmI w gr b rr w.heap.size g5 (tmC k 0 0 ⟨#[]⟩ (.slice none 0 0)) (l - 1) ((s.size : Int) :: (ints s ++ r2)) a4 := by rw [← e1]; exact J4
    clear e1 J4
    have c0 := J5.I.R.cell 0
    simp only [List.getElem?_cons_zero] at c0
    have g3 : decide ((s.size : Int) ≤ 64) = true := by have := HS.out; simp; omega
    go_wp2_with fail
    refine (u8_cons b rr s.size (ints s ++ r2) a4 J5.I.rd (by have := J5.I.l3; have := J5.I.ch.size; omega) HSB.out.1).mono ?_
    rintro e' a5 ⟨rfl, hrd, hc⟩
    have J6 := J5.read hrd hc
    clear hrd hc c0
    go_wp2_with fail
    refine (need_ok gr b rr _ _ a5 J6.I.rd J6.I.R).mono ?_
    rintro e' w' ⟨rfl, rfl⟩
    have c0 := J6.I.R.cell 0
    simp only [List.getElem?_cons_zero] at c0
    clear g3
    go_wp2_with fail
    refine (raw_of b rr (ints s ++ r2) 0 s.size a5 r2 0 (ints s) s.size J6.I.rd (by have := J6.I.l3; have := J6.I.ch.size; omega) (by have := HSB.out.2; omega) (takeF_app (ints s) r2 s.size (ints_length s)) (ints_length s).symm).mono ?_
    rintro e' a6 ⟨or, pr, rfl, hown, hrd, hc⟩
    have J7 := J6.read hrd hc
    have cv := run_convert_sl (P := Try.prog) a6 25 9 5 Try.underlying25 Try.underlying5 Try.underlying9 (.slice or s.size pr) (ints s) (Sl.of_owns hown) (ints_allB s)
    rw [toB_ints] at cv
    clear hrd hc c0 hown
    go_wp2_with (first
    | ((with_reducible refine wpList_store1 a6 rfl 9 (.tmp 59) (.tmp 58) rfl g5 3 24 _ J7.T rfl (.string s) rfl (by simp [tmC]) Try.sizeStr1 rfl rfl ?_); intro a7 hb hc hs; have J8 : TmI w gr b rr w.heap.size g5 (tmC k 0 0 s (.slice none 0 0)) (l - 1) (r2) a7 := J7.setT hb hc; clear hb hc hs))
    clear cv
    refine (need_ok gr b rr _ _ a7 J8.I.rd J8.I.R).mono ?_
    rintro e' w' ⟨rfl, rfl⟩
    go_wp2_with fail
    refine (HU.out a7).mono ?_
    rintro e' w' ⟨rfl, rfl⟩
    cases bU
    · have e : u = 0 := by have h := HPU.out; simpa using h
      have e2 : r2 = r3 := by have h := HR2.out; simpa using h.symm
      have J8' : TmI w gr b rr w.heap.size g5 (tmC k u 0 s (.slice none 0 0)) (l - 1) (r3) a7 := by rw [← e2, e]; exact J8
      clear e e2 J8
      go_wp2_with fail
      refine (HN.out a7).mono ?_
      rintro e' w' ⟨rfl, rfl⟩
      cases bN
      · have e : n = 0 := by have h := HPN.out; simpa using h
        have e2 : r3 = r4 := by have h := HR3.out; simpa using h.symm
        have J8''' : TmI w gr b rr w.heap.size g5 (tmC k u n s (.slice none 0 0)) (l - 1) (r4) a7 := by rw [← e2, e]; exact J8'
        clear e e2 J8'
        go_wp2_with fail
        refine (HKD.out a7).mono ?_
        rintro e' w' ⟨rfl, rfl⟩
        go_wp2_with fail
        go_loopw [89] (fun i wr => ∃ (j : Nat) (lj : Int) (oz : Option Addr) (pz : Nat) (ts : List Tm), i = .int .i64 j ∧ j ≤ m ∧ 0 ≤ lj ∧ lj ≤ 1200 ∧ Hid (ts = ks.take j) ∧ Hid (walkL (ks.drop j) (d + 1) lj = (true, lf)) ∧ TmI w gr b rr w.heap.size g5 (tmC k u n s (.slice oz ts.length pz)) (lj) (bytesTL (ks.drop j) ++ rest) wr ∧ KidI (g5 + 1) (.slice oz ts.length pz) ts wr) (fun i _ => m - (intOf i).toNat)
        case atStart => exact ⟨0, l - 1, none, 0, [], rfl, Nat.zero_le _, hl2, by omega, Lib.hid (by rw [List.take_zero]), Lib.hid (by rw [List.drop_zero]; exact HW.out), by rw [List.drop_zero, HR4.out]; exact J8''', KidI.nil _ _⟩
        case round =>
          clear J8'''
          obtain ⟨j, lj, oz, pz, ts, rfl, hj, hlj0, hlj1, HTS, HQ, JR, KR⟩ := hrel
          by_cases hlt : j < m
          · have hjk : j < ks.length := by rw [HM.out]; exact hlt
            have hjz : (j : Int) < (m : Int) := by omega
            have HMEM := Lib.hid (List.getElem_mem hjk)
            have HDR := Lib.hid (List.drop_eq_getElem_cons hjk)
            have HTK := Lib.hid (show ts ++ [ks[j]] = ks.take (j + 1) from by rw [HTS.out, List.take_succ_eq_append_getElem hjk])
            generalize ks[j] = kj at HMEM HDR HTK
            have HQ2 := Lib.hid (show walkL (kj :: ks.drop (j + 1)) (d + 1) lj = (true, lf) from by rw [← HDR.out]; exact HQ.out)
            have HWK := Lib.hid (show (walkM kj (d + 1) lj).1 = true from by have h := HQ2.out; rw [walkL_cons] at h; by_cases hh : (walkM kj (d + 1) lj).1 = true; exact hh; rw [if_neg hh] at h; cases h)
            have HQ3 := Lib.hid (show walkL (ks.drop (j + 1)) (d + 1) (walkM kj (d + 1) lj).2 = (true, lf) from by have h := HQ2.out; rw [walkL_cons, if_pos HWK.out] at h; exact h)
            have HBD := Lib.hid (walkM_bd kj (d + 1) lj HWK.out)
            have HLT := Lib.hid (show ts.length ≤ 1000000 from by have h1 := HTS.out; rw [h1, List.length_take]; have h2 := HPL.out; have h3 : kidsN k ≤ 2 := kidsN_le k; have h4 : ks.length = kidsN k := h2; omega)
            have JR2 : TmI w gr b rr w.heap.size g5 (tmC k u n s (.slice oz ts.length pz)) (lj) (bytesT kj ++ (bytesTL (ks.drop (j + 1)) ++ rest)) wr := by have h := JR; rw [HDR.out, bytesTL, List.append_assoc] at h; exact h
            have HAK := Lib.hid (show AllB (bytesTL (ks.drop (j + 1)) ++ rest) ∧ (bytesT kj ++ (bytesTL (ks.drop (j + 1)) ++ rest)).length ≤ 1000000 from drop_facts HW.out HAR.out HDR.out HR4.out (show r4.length ≤ 1000000 from by have h1 := HL1.out; rw [← HR1.out, ← HR2.out, ← HR3.out] at h1; simp only [List.length_append] at h1; omega))
            clear JR hjk HDR HQ HQ2
            go_wp2_with fail
            refine wp_region_marked (fun w' => w'.cell? ⟨g5, 4, none⟩ = some (.slice oz ts.length pz)) 9 [0, 1, 2, 3, 4] 5 (by kernel_rfl) rfl (by kernel_rfl) (by kernel_rfl) (JR2.T.cell 4) ?_
            iterate 5 (refine' HeldL.run ?_ ?_ ?_ ?_; rotate_left 2; (simp only [List.getElem?_toArray, List.getElem?_cons_zero, List.getElem?_cons_succ]; rfl); rfl; (rintro w' k0; go_simp; with_reducible rfl); simp only [Act.put, List.setIfInBounds_toArray, List.set_cons_zero, List.set_cons_succ])
            have sm := (Sm.refl wr).drew
            have HV70 := And.intro (JR2.low (sm.below _)) (KR.below (sm.below _))
            clear sm
            generalize wr.drew = v69 at HV70 ⊢
            refine' wpAnyM_one 5 (by kernel_rfl) ?_ ?_; rotate_left; (simp only [List.getElem?_toArray, List.getElem?_cons_zero, List.getElem?_cons_succ]; rfl)
            try simp only [Act.put]
            go_wp2_with fail
            have hx := HIH.out kj HMEM.out (bytesTL (ks.drop (j + 1)) ++ rest) (d + 1) lj gr b rr v69 HWK.out HV70.1.I.rd HV70.1.I.R HV70.1.I.n1 HV70.1.I.n2 (by have := HV70.1.I.l3; have := HV70.1.I.ch.size; omega) HAK.out.1 HAK.out.2 hlj0 hlj1 (by omega) (by omega)
            refine Calls.mono hx ?_
            clear hx
            rintro e' h71 ⟨cj, rfl, htm, hrd, hR, hc⟩
            have J72 := HV70.1.all hrd hR hc
            have K73 := HV70.2.keep hc (fun q hq e => by have h1 := HV70.1.I.l1; have h2 := HV70.1.I.l2; have h3 := HV70.1.I.l4; have h4 := HV70.1.g; omega)
            have HTM := Lib.hid (show TmC (fun q => g5 + 1 ≤ q ∧ (Value.slice oz ts.length pz).ownBlock ≠ some q) h71 cj kj from htm.mono fun q hq => ⟨by have h1 := HV70.1.T.lt; have hq : v69.heap.size ≤ q := hq; omega, fun e => by have h1 := (HV70.2.lt q e).2; have hq : v69.heap.size ≤ q := hq; omega⟩)
            clear htm hrd hR hc
            obtain ⟨aj, pj, rfl, -, -, -⟩ := HTM.out.shape
            go_wp2_with fail
            refine QK.normal ⟨fun _ => (J72.T.cell 4), ?_⟩
            refine' wpAnyM_one 6 (by kernel_rfl) ?_ ?_; rotate_left; (simp only [List.getElem?_toArray, List.getElem?_cons_zero, List.getElem?_cons_succ]; rfl)
            refine wpList_slice_t1 h71 rfl (.tmp 96) rfl (tmC kj.k kj.u kj.n kj.s (.slice aj kj.ks.length pj)) rfl rfl ?_
            intro h74 hb hbel hsz
            have J75 := J72.low hbel
            have K76 := K73.below hbel
            have HTM2 := Lib.hid (And.intro (HTM.out.below hbel) hb)
            clear hb hbel hsz
            simp only [Act.put, List.setIfInBounds_toArray, List.set_cons_zero, List.set_cons_succ]
            refine QK.normal ⟨fun _ => (J75.T.cell 4), ?_⟩
            refine' wpAnyM_one 7 (by kernel_rfl) ?_ ?_; rotate_left; (simp only [List.getElem?_toArray, List.getElem?_cons_zero, List.getElem?_cons_succ]; rfl)
            at_builtin
            refine wpList_append_T (.tmp 92) (.tmp 97) rfl rfl K76 rfl rfl HTM2.out.2 HTM2.out.1 HLT.out (by have := J75.T.lt; omega) ?_
            intro oy py h77 K79 hc hat
            have J78 : TmI w gr b rr w.heap.size g5 (tmC k u n s (.slice oz ts.length pz)) ((walkM kj (d + 1) lj).2) (bytesTL (ks.drop (j + 1)) ++ rest) h77 := by
              have h1 := J75.I.l1; have h2 := J75.I.l2; have h3 := J75.I.l4; have h4 := J75.g; have h5 := J75.I.l3
              have hk : ∀ q, (Value.slice oz ts.length pz).ownBlock = some q → g5 + 1 ≤ q := fun q hq => (K76.lt q hq).1
              exact ⟨⟨J75.I.rd.keep hc (fun e => by have := hk _ e; omega) (fun e => by have := hk _ e; omega), J75.I.R.keep hc (fun e => by have := hk _ e; omega), J75.I.res.keep hc (fun e => by have := hk _ e; omega), J75.I.ch.trans' hc (fun i hi e => by have := hk _ e; omega), J75.I.n1, J75.I.n2, h1, h2, h5, h3⟩, J75.T.keep hc (fun e => by have := hk _ e; omega), h4⟩
            clear hc hat
            simp only [Act.put, List.setIfInBounds_toArray, List.set_cons_zero, List.set_cons_succ]
            refine QK.normal ⟨fun _ => (J78.T.cell 4), ?_⟩
            refine wpAnyM_takes (by kernel_rfl) noPanic_any (fuel := 1) (J78.T.cell 4) [8] _ _ (by kernel_rfl) ?_
            refine' HeldL.run ?_ ?_ ?_ ?_; rotate_left 2; (simp only [List.getElem?_toArray, List.getElem?_cons_zero, List.getElem?_cons_succ]; rfl); rfl; (rintro w' k0; go_simp; with_reducible rfl); simp only [Act.put, List.setIfInBounds_toArray, List.set_cons_zero, List.set_cons_succ]
            refine' wpAnyM_one 9 (by kernel_rfl) ?_ ?_; rotate_left; (simp only [List.getElem?_toArray, List.getElem?_cons_zero, List.getElem?_cons_succ]; rfl)
            refine wpList_store1 h77 rfl 22 (.tmp 99) (.tmp 98) rfl g5 4 24 _ J78.T rfl (.slice oy (ts ++ [kj]).length py) rfl (by simp [tmC]) Try.sizeTs1 rfl rfl ?_
            intro h80 hb hc hs
            have J81 : TmI w gr b rr w.heap.size g5 (tmC k u n s (.slice oy (ts ++ [kj]).length py)) ((walkM kj (d + 1) lj).2) (bytesTL (ks.drop (j + 1)) ++ rest) h80 := J78.setT hb hc
            have K82 := K79.keep hc (fun q hq e => by have e : q = g5 := e; omega)
            clear hb hc hs
            try simp only [Act.put, List.setIfInBounds_toArray, List.set_cons_zero, List.set_cons_succ]
            refine QK.normal ⟨fun h => absurd h (by decide), ?_⟩
            refine wpAnyM_done (by kernel_rfl) ?_ _
            refine NoPanic.normal ?_
            go_wp2_with fail
            go_roundw
            case rel => exact ⟨j + 1, _, oy, py, ts ++ [kj], by go_num, by omega, HBD.out.1, by have := HBD.out.2; omega, HTK, HQ3, J81, K82⟩
            case measure => simp [intOf]; omega
          · have hge : ¬ (j : Int) < (m : Int) := by omega
            have HE := Lib.hid (show ts = ks ∧ lj = lf ∧ ks.drop j = [] from by
              have h1 := List.drop_of_length_le (l := ks) (i := j) (by rw [HM.out]; omega)
              have h2 := HQ.out
              rw [h1, walkL] at h2
              refine ⟨by rw [HTS.out, List.take_of_length_le (by rw [HM.out]; omega)], by simpa using h2, h1⟩)
            go_wp2_with (first
    | (with_reducible refine wpList_load_any rfl 24 (.tmp 5) rfl g5 0 rfl (tmC k u n s (.slice oz ts.length pz)) _ (rangeW_blk JR.T) Try.underlying24 rfl (tmC_info _ _ _ _ _) ?_)
    | ((with_reducible refine wpList_store_blk wr rfl 24 (.tmp 4) (.tmp 101) rfl w.heap.size 24 (tmC 0 0 0 ⟨#[]⟩ (.slice none 0 0)) (tmC k u n s (.slice oz ts.length pz)) JR.I.res rfl rfl rfl (tmC_info _ _ _ _ _) (tmC_one _ _ _ _ _ _ _) ?_); intro z1 hb hc hs; have HZ := Lib.hid (And.intro hb hc); clear hb hc hs))
            refine bodyPost_ret (results_blk Try.results43 _ _ w.heap.size _ _ rfl HZ.out.1 _ Try.underlying24 rfl (tmC_info _ _ _ _ _)) rfl ?_
            have h1 := JR.I.l1; have h2 := JR.I.l2; have h3 := JR.I.l4; have h4 := JR.g; have h5 := JR.I.l3
            have k1 := (KR.keep HZ.out.2 (fun q hq e => by have e : q = w.heap.size := e; omega)).slt.mono (G := (w.heap.size ≤ ·)) (fun q hq => by omega)
            have k2 := JR.I.rd.keep HZ.out.2 (fun e => by have e : b = w.heap.size := e; omega) (fun e => by have e : rr = w.heap.size := e; omega)
            rw [HE.out.2.2, bytesTL, List.nil_append] at k2
            have k3 := JR.I.R.keep HZ.out.2 (fun e => by have e : gr = w.heap.size := e; omega)
            rw [HE.out.2.1] at k3
            rw [HE.out.1] at k1
            refine ⟨_, rfl, TmC_iff.2 ⟨_, rfl, ?_⟩, k2, k3, JR.I.ch.trans' HZ.out.2 (fun i hi e => by have e : i = w.heap.size := e; omega)⟩
            rw [HE.out.1]; exact k1
      · have hw4 : wrap64 n = n := by have h := HPN.out; simp at h; unfold wrap64; omega
        have c0 := J8'.I.R.cell 0
        simp only [List.getElem?_cons_zero] at c0
        go_wp2_with fail
        refine (u16_be b rr n r4 a7 (by have h := J8'.I.rd; have e : r3 = beF n 2 ++ r4 := HR3.out.symm; rw [e] at h; exact h) (by have := J8'.I.l3; have := J8'.I.ch.size; omega) HAB.out.2.2.2.2 (by have h := HPN.out; simpa using h)).mono ?_
        rintro e' b83 ⟨rfl, hrd, hc⟩
        have J84 := J8'.read hrd hc
        clear hrd hc c0
        go_wp2_with (first
    | ((with_reducible refine wpList_store1 b83 rfl 3 (.tmp 84) (.tmp 83) rfl g5 2 24 _ J84.T rfl (.int .i64 n) ?_ (by simp [tmC]) Try.sizeInt1 rfl rfl ?_); (focus (first | rfl | exact congrArg (Value.int IntKind.i64) hw4)); intro b85 hb hc hs; have J86 : TmI w gr b rr w.heap.size g5 (tmC k u n s (.slice none 0 0)) (l - 1) (r4) b85 := J84.setT hb hc; clear hb hc hs))
        refine (need_ok gr b rr _ _ b85 J86.I.rd J86.I.R).mono ?_
        rintro e' w' ⟨rfl, rfl⟩
        go_wp2_with fail
        refine (HKD.out b85).mono ?_
        rintro e' w' ⟨rfl, rfl⟩
        go_wp2_with fail
        go_loopw [89] (fun i wr => ∃ (j : Nat) (lj : Int) (oz : Option Addr) (pz : Nat) (ts : List Tm), i = .int .i64 j ∧ j ≤ m ∧ 0 ≤ lj ∧ lj ≤ 1200 ∧ Hid (ts = ks.take j) ∧ Hid (walkL (ks.drop j) (d + 1) lj = (true, lf)) ∧ TmI w gr b rr w.heap.size g5 (tmC k u n s (.slice oz ts.length pz)) (lj) (bytesTL (ks.drop j) ++ rest) wr ∧ KidI (g5 + 1) (.slice oz ts.length pz) ts wr) (fun i _ => m - (intOf i).toNat)
        case atStart => exact ⟨0, l - 1, none, 0, [], rfl, Nat.zero_le _, hl2, by omega, Lib.hid (by rw [List.take_zero]), Lib.hid (by rw [List.drop_zero]; exact HW.out), by rw [List.drop_zero, HR4.out]; exact J86, KidI.nil _ _⟩
        case round =>
          clear J86
          obtain ⟨j, lj, oz, pz, ts, rfl, hj, hlj0, hlj1, HTS, HQ, JR, KR⟩ := hrel
          by_cases hlt : j < m
          · have hjk : j < ks.length := by rw [HM.out]; exact hlt
            have hjz : (j : Int) < (m : Int) := by omega
            have HMEM := Lib.hid (List.getElem_mem hjk)
            have HDR := Lib.hid (List.drop_eq_getElem_cons hjk)
            have HTK := Lib.hid (show ts ++ [ks[j]] = ks.take (j + 1) from by rw [HTS.out, List.take_succ_eq_append_getElem hjk])
            generalize ks[j] = kj at HMEM HDR HTK
            have HQ2 := Lib.hid (show walkL (kj :: ks.drop (j + 1)) (d + 1) lj = (true, lf) from by rw [← HDR.out]; exact HQ.out)
            have HWK := Lib.hid (show (walkM kj (d + 1) lj).1 = true from by have h := HQ2.out; rw [walkL_cons] at h; by_cases hh : (walkM kj (d + 1) lj).1 = true; exact hh; rw [if_neg hh] at h; cases h)
            have HQ3 := Lib.hid (show walkL (ks.drop (j + 1)) (d + 1) (walkM kj (d + 1) lj).2 = (true, lf) from by have h := HQ2.out; rw [walkL_cons, if_pos HWK.out] at h; exact h)
            have HBD := Lib.hid (walkM_bd kj (d + 1) lj HWK.out)
            have HLT := Lib.hid (show ts.length ≤ 1000000 from by have h1 := HTS.out; rw [h1, List.length_take]; have h2 := HPL.out; have h3 : kidsN k ≤ 2 := kidsN_le k; have h4 : ks.length = kidsN k := h2; omega)
            have JR2 : TmI w gr b rr w.heap.size g5 (tmC k u n s (.slice oz ts.length pz)) (lj) (bytesT kj ++ (bytesTL (ks.drop (j + 1)) ++ rest)) wr := by have h := JR; rw [HDR.out, bytesTL, List.append_assoc] at h; exact h
            have HAK := Lib.hid (show AllB (bytesTL (ks.drop (j + 1)) ++ rest) ∧ (bytesT kj ++ (bytesTL (ks.drop (j + 1)) ++ rest)).length ≤ 1000000 from drop_facts HW.out HAR.out HDR.out HR4.out (show r4.length ≤ 1000000 from by have h1 := HL1.out; rw [← HR1.out, ← HR2.out, ← HR3.out] at h1; simp only [List.length_append] at h1; omega))
            clear JR hjk HDR HQ HQ2
            go_wp2_with fail
            refine wp_region_marked (fun w' => w'.cell? ⟨g5, 4, none⟩ = some (.slice oz ts.length pz)) 9 [0, 1, 2, 3, 4] 5 (by kernel_rfl) rfl (by kernel_rfl) (by kernel_rfl) (JR2.T.cell 4) ?_
            iterate 5 (refine' HeldL.run ?_ ?_ ?_ ?_; rotate_left 2; (simp only [List.getElem?_toArray, List.getElem?_cons_zero, List.getElem?_cons_succ]; rfl); rfl; (rintro w' k0; go_simp; with_reducible rfl); simp only [Act.put, List.setIfInBounds_toArray, List.set_cons_zero, List.set_cons_succ])
            have sm := (Sm.refl wr).drew
            have HV88 := And.intro (JR2.low (sm.below _)) (KR.below (sm.below _))
            clear sm
            generalize wr.drew = v87 at HV88 ⊢
            refine' wpAnyM_one 5 (by kernel_rfl) ?_ ?_; rotate_left; (simp only [List.getElem?_toArray, List.getElem?_cons_zero, List.getElem?_cons_succ]; rfl)
            try simp only [Act.put]
            go_wp2_with fail
            have hx := HIH.out kj HMEM.out (bytesTL (ks.drop (j + 1)) ++ rest) (d + 1) lj gr b rr v87 HWK.out HV88.1.I.rd HV88.1.I.R HV88.1.I.n1 HV88.1.I.n2 (by have := HV88.1.I.l3; have := HV88.1.I.ch.size; omega) HAK.out.1 HAK.out.2 hlj0 hlj1 (by omega) (by omega)
            refine Calls.mono hx ?_
            clear hx
            rintro e' h89 ⟨cj, rfl, htm, hrd, hR, hc⟩
            have J90 := HV88.1.all hrd hR hc
            have K91 := HV88.2.keep hc (fun q hq e => by have h1 := HV88.1.I.l1; have h2 := HV88.1.I.l2; have h3 := HV88.1.I.l4; have h4 := HV88.1.g; omega)
            have HTM := Lib.hid (show TmC (fun q => g5 + 1 ≤ q ∧ (Value.slice oz ts.length pz).ownBlock ≠ some q) h89 cj kj from htm.mono fun q hq => ⟨by have h1 := HV88.1.T.lt; have hq : v87.heap.size ≤ q := hq; omega, fun e => by have h1 := (HV88.2.lt q e).2; have hq : v87.heap.size ≤ q := hq; omega⟩)
            clear htm hrd hR hc
            obtain ⟨aj, pj, rfl, -, -, -⟩ := HTM.out.shape
            go_wp2_with fail
            refine QK.normal ⟨fun _ => (J90.T.cell 4), ?_⟩
            refine' wpAnyM_one 6 (by kernel_rfl) ?_ ?_; rotate_left; (simp only [List.getElem?_toArray, List.getElem?_cons_zero, List.getElem?_cons_succ]; rfl)
            refine wpList_slice_t1 h89 rfl (.tmp 96) rfl (tmC kj.k kj.u kj.n kj.s (.slice aj kj.ks.length pj)) rfl rfl ?_
            intro h92 hb hbel hsz
            have J93 := J90.low hbel
            have K94 := K91.below hbel
            have HTM2 := Lib.hid (And.intro (HTM.out.below hbel) hb)
            clear hb hbel hsz
            simp only [Act.put, List.setIfInBounds_toArray, List.set_cons_zero, List.set_cons_succ]
            refine QK.normal ⟨fun _ => (J93.T.cell 4), ?_⟩
            refine' wpAnyM_one 7 (by kernel_rfl) ?_ ?_; rotate_left; (simp only [List.getElem?_toArray, List.getElem?_cons_zero, List.getElem?_cons_succ]; rfl)
            at_builtin
            refine wpList_append_T (.tmp 92) (.tmp 97) rfl rfl K94 rfl rfl HTM2.out.2 HTM2.out.1 HLT.out (by have := J93.T.lt; omega) ?_
            intro oy py h95 K97 hc hat
            have J96 : TmI w gr b rr w.heap.size g5 (tmC k u n s (.slice oz ts.length pz)) ((walkM kj (d + 1) lj).2) (bytesTL (ks.drop (j + 1)) ++ rest) h95 := by
              have h1 := J93.I.l1; have h2 := J93.I.l2; have h3 := J93.I.l4; have h4 := J93.g; have h5 := J93.I.l3
              have hk : ∀ q, (Value.slice oz ts.length pz).ownBlock = some q → g5 + 1 ≤ q := fun q hq => (K94.lt q hq).1
              exact ⟨⟨J93.I.rd.keep hc (fun e => by have := hk _ e; omega) (fun e => by have := hk _ e; omega), J93.I.R.keep hc (fun e => by have := hk _ e; omega), J93.I.res.keep hc (fun e => by have := hk _ e; omega), J93.I.ch.trans' hc (fun i hi e => by have := hk _ e; omega), J93.I.n1, J93.I.n2, h1, h2, h5, h3⟩, J93.T.keep hc (fun e => by have := hk _ e; omega), h4⟩
            clear hc hat
            simp only [Act.put, List.setIfInBounds_toArray, List.set_cons_zero, List.set_cons_succ]
            refine QK.normal ⟨fun _ => (J96.T.cell 4), ?_⟩
            refine wpAnyM_takes (by kernel_rfl) noPanic_any (fuel := 1) (J96.T.cell 4) [8] _ _ (by kernel_rfl) ?_
            refine' HeldL.run ?_ ?_ ?_ ?_; rotate_left 2; (simp only [List.getElem?_toArray, List.getElem?_cons_zero, List.getElem?_cons_succ]; rfl); rfl; (rintro w' k0; go_simp; with_reducible rfl); simp only [Act.put, List.setIfInBounds_toArray, List.set_cons_zero, List.set_cons_succ]
            refine' wpAnyM_one 9 (by kernel_rfl) ?_ ?_; rotate_left; (simp only [List.getElem?_toArray, List.getElem?_cons_zero, List.getElem?_cons_succ]; rfl)
            refine wpList_store1 h95 rfl 22 (.tmp 99) (.tmp 98) rfl g5 4 24 _ J96.T rfl (.slice oy (ts ++ [kj]).length py) rfl (by simp [tmC]) Try.sizeTs1 rfl rfl ?_
            intro h98 hb hc hs
            have J99 : TmI w gr b rr w.heap.size g5 (tmC k u n s (.slice oy (ts ++ [kj]).length py)) ((walkM kj (d + 1) lj).2) (bytesTL (ks.drop (j + 1)) ++ rest) h98 := J96.setT hb hc
            have K100 := K97.keep hc (fun q hq e => by have e : q = g5 := e; omega)
            clear hb hc hs
            try simp only [Act.put, List.setIfInBounds_toArray, List.set_cons_zero, List.set_cons_succ]
            refine QK.normal ⟨fun h => absurd h (by decide), ?_⟩
            refine wpAnyM_done (by kernel_rfl) ?_ _
            refine NoPanic.normal ?_
            go_wp2_with fail
            go_roundw
            case rel => exact ⟨j + 1, _, oy, py, ts ++ [kj], by go_num, by omega, HBD.out.1, by have := HBD.out.2; omega, HTK, HQ3, J99, K100⟩
            case measure => simp [intOf]; omega
          · have hge : ¬ (j : Int) < (m : Int) := by omega
            have HE := Lib.hid (show ts = ks ∧ lj = lf ∧ ks.drop j = [] from by
              have h1 := List.drop_of_length_le (l := ks) (i := j) (by rw [HM.out]; omega)
              have h2 := HQ.out
              rw [h1, walkL] at h2
              refine ⟨by rw [HTS.out, List.take_of_length_le (by rw [HM.out]; omega)], by simpa using h2, h1⟩)
            go_wp2_with (first
    | (with_reducible refine wpList_load_any rfl 24 (.tmp 5) rfl g5 0 rfl (tmC k u n s (.slice oz ts.length pz)) _ (rangeW_blk JR.T) Try.underlying24 rfl (tmC_info _ _ _ _ _) ?_)
    | ((with_reducible refine wpList_store_blk wr rfl 24 (.tmp 4) (.tmp 101) rfl w.heap.size 24 (tmC 0 0 0 ⟨#[]⟩ (.slice none 0 0)) (tmC k u n s (.slice oz ts.length pz)) JR.I.res rfl rfl rfl (tmC_info _ _ _ _ _) (tmC_one _ _ _ _ _ _ _) ?_); intro z1 hb hc hs; have HZ := Lib.hid (And.intro hb hc); clear hb hc hs))
            refine bodyPost_ret (results_blk Try.results43 _ _ w.heap.size _ _ rfl HZ.out.1 _ Try.underlying24 rfl (tmC_info _ _ _ _ _)) rfl ?_
            have h1 := JR.I.l1; have h2 := JR.I.l2; have h3 := JR.I.l4; have h4 := JR.g; have h5 := JR.I.l3
            have k1 := (KR.keep HZ.out.2 (fun q hq e => by have e : q = w.heap.size := e; omega)).slt.mono (G := (w.heap.size ≤ ·)) (fun q hq => by omega)
            have k2 := JR.I.rd.keep HZ.out.2 (fun e => by have e : b = w.heap.size := e; omega) (fun e => by have e : rr = w.heap.size := e; omega)
            rw [HE.out.2.2, bytesTL, List.nil_append] at k2
            have k3 := JR.I.R.keep HZ.out.2 (fun e => by have e : gr = w.heap.size := e; omega)
            rw [HE.out.2.1] at k3
            rw [HE.out.1] at k1
            refine ⟨_, rfl, TmC_iff.2 ⟨_, rfl, ?_⟩, k2, k3, JR.I.ch.trans' HZ.out.2 (fun i hi e => by have e : i = w.heap.size := e; omega)⟩
            rw [HE.out.1]; exact k1
    · have hw3 : wrap64 u = u := by have h := HPU.out; simp at h; unfold wrap64; omega
      have HKU := Lib.hid (show knownB u = true from by have h := HPU.out; simp at h; unfold knownB; simp; omega)
      have c0 := J8.I.R.cell 0
      simp only [List.getElem?_cons_zero] at c0
      go_wp2_with fail
      refine (u8_cons b rr u r3 a7 (by have h := J8.I.rd; have e : r2 = u :: r3 := HR2.out.symm; rw [e] at h; exact h) (by have := J8.I.l3; have := J8.I.ch.size; omega) (by have h := HAB.out.2.2.1; have e : r2 = u :: r3 := HR2.out.symm; rw [e] at h; exact h)).mono ?_
      rintro e' b101 ⟨rfl, hrd, hc⟩
      have J102 := J8.read hrd hc
      clear hrd hc c0
      go_wp2_with (first
    | ((with_reducible refine wpList_store1 b101 rfl 3 (.tmp 70) (.tmp 69) rfl g5 1 24 _ J102.T rfl (.int .i64 u) ?_ (by simp [tmC]) Try.sizeInt1 rfl rfl ?_); (focus (first | rfl | exact congrArg (Value.int IntKind.i64) hw3)); intro b103 hb hc hs; have J104 : TmI w gr b rr w.heap.size g5 (tmC k u 0 s (.slice none 0 0)) (l - 1) (r3) b103 := J102.setT hb hc; have cu := J104.T.cell 1; simp only [tmC, List.getElem?_cons_zero, List.getElem?_cons_succ] at cu; clear hb hc hs))
      have hx := known_any u b103
      rw [HKU.out] at hx
      refine Calls.mono hx ?_
      clear hx
      rintro e' w' ⟨rfl, rfl⟩
      clear cu
      go_wp2_with fail
      refine (need_ok gr b rr _ _ b103 J104.I.rd J104.I.R).mono ?_
      rintro e' w' ⟨rfl, rfl⟩
      go_wp2_with fail
      refine (HN.out b103).mono ?_
      rintro e' w' ⟨rfl, rfl⟩
      cases bN
      · have e : n = 0 := by have h := HPN.out; simpa using h
        have e2 : r3 = r4 := by have h := HR3.out; simpa using h.symm
        have J104'' : TmI w gr b rr w.heap.size g5 (tmC k u n s (.slice none 0 0)) (l - 1) (r4) b103 := by rw [← e2, e]; exact J104
        clear e e2 J104
        go_wp2_with fail
        refine (HKD.out b103).mono ?_
        rintro e' w' ⟨rfl, rfl⟩
        go_wp2_with fail
        go_loopw [89] (fun i wr => ∃ (j : Nat) (lj : Int) (oz : Option Addr) (pz : Nat) (ts : List Tm), i = .int .i64 j ∧ j ≤ m ∧ 0 ≤ lj ∧ lj ≤ 1200 ∧ Hid (ts = ks.take j) ∧ Hid (walkL (ks.drop j) (d + 1) lj = (true, lf)) ∧ TmI w gr b rr w.heap.size g5 (tmC k u n s (.slice oz ts.length pz)) (lj) (bytesTL (ks.drop j) ++ rest) wr ∧ KidI (g5 + 1) (.slice oz ts.length pz) ts wr) (fun i _ => m - (intOf i).toNat)
        case atStart => exact ⟨0, l - 1, none, 0, [], rfl, Nat.zero_le _, hl2, by omega, Lib.hid (by rw [List.take_zero]), Lib.hid (by rw [List.drop_zero]; exact HW.out), by rw [List.drop_zero, HR4.out]; exact J104'', KidI.nil _ _⟩
        case round =>
          clear J104''
          obtain ⟨j, lj, oz, pz, ts, rfl, hj, hlj0, hlj1, HTS, HQ, JR, KR⟩ := hrel
          by_cases hlt : j < m
          · have hjk : j < ks.length := by rw [HM.out]; exact hlt
            have hjz : (j : Int) < (m : Int) := by omega
            have HMEM := Lib.hid (List.getElem_mem hjk)
            have HDR := Lib.hid (List.drop_eq_getElem_cons hjk)
            have HTK := Lib.hid (show ts ++ [ks[j]] = ks.take (j + 1) from by rw [HTS.out, List.take_succ_eq_append_getElem hjk])
            generalize ks[j] = kj at HMEM HDR HTK
            have HQ2 := Lib.hid (show walkL (kj :: ks.drop (j + 1)) (d + 1) lj = (true, lf) from by rw [← HDR.out]; exact HQ.out)
            have HWK := Lib.hid (show (walkM kj (d + 1) lj).1 = true from by have h := HQ2.out; rw [walkL_cons] at h; by_cases hh : (walkM kj (d + 1) lj).1 = true; exact hh; rw [if_neg hh] at h; cases h)
            have HQ3 := Lib.hid (show walkL (ks.drop (j + 1)) (d + 1) (walkM kj (d + 1) lj).2 = (true, lf) from by have h := HQ2.out; rw [walkL_cons, if_pos HWK.out] at h; exact h)
            have HBD := Lib.hid (walkM_bd kj (d + 1) lj HWK.out)
            have HLT := Lib.hid (show ts.length ≤ 1000000 from by have h1 := HTS.out; rw [h1, List.length_take]; have h2 := HPL.out; have h3 : kidsN k ≤ 2 := kidsN_le k; have h4 : ks.length = kidsN k := h2; omega)
            have JR2 : TmI w gr b rr w.heap.size g5 (tmC k u n s (.slice oz ts.length pz)) (lj) (bytesT kj ++ (bytesTL (ks.drop (j + 1)) ++ rest)) wr := by have h := JR; rw [HDR.out, bytesTL, List.append_assoc] at h; exact h
            have HAK := Lib.hid (show AllB (bytesTL (ks.drop (j + 1)) ++ rest) ∧ (bytesT kj ++ (bytesTL (ks.drop (j + 1)) ++ rest)).length ≤ 1000000 from drop_facts HW.out HAR.out HDR.out HR4.out (show r4.length ≤ 1000000 from by have h1 := HL1.out; rw [← HR1.out, ← HR2.out, ← HR3.out] at h1; simp only [List.length_append] at h1; omega))
            clear JR hjk HDR HQ HQ2
            go_wp2_with fail
            refine wp_region_marked (fun w' => w'.cell? ⟨g5, 4, none⟩ = some (.slice oz ts.length pz)) 9 [0, 1, 2, 3, 4] 5 (by kernel_rfl) rfl (by kernel_rfl) (by kernel_rfl) (JR2.T.cell 4) ?_
            iterate 5 (refine' HeldL.run ?_ ?_ ?_ ?_; rotate_left 2; (simp only [List.getElem?_toArray, List.getElem?_cons_zero, List.getElem?_cons_succ]; rfl); rfl; (rintro w' k0; go_simp; with_reducible rfl); simp only [Act.put, List.setIfInBounds_toArray, List.set_cons_zero, List.set_cons_succ])
            have sm := (Sm.refl wr).drew
            have HV106 := And.intro (JR2.low (sm.below _)) (KR.below (sm.below _))
            clear sm
            generalize wr.drew = v105 at HV106 ⊢
            refine' wpAnyM_one 5 (by kernel_rfl) ?_ ?_; rotate_left; (simp only [List.getElem?_toArray, List.getElem?_cons_zero, List.getElem?_cons_succ]; rfl)
            try simp only [Act.put]
            go_wp2_with fail
            have hx := HIH.out kj HMEM.out (bytesTL (ks.drop (j + 1)) ++ rest) (d + 1) lj gr b rr v105 HWK.out HV106.1.I.rd HV106.1.I.R HV106.1.I.n1 HV106.1.I.n2 (by have := HV106.1.I.l3; have := HV106.1.I.ch.size; omega) HAK.out.1 HAK.out.2 hlj0 hlj1 (by omega) (by omega)
            refine Calls.mono hx ?_
            clear hx
            rintro e' h107 ⟨cj, rfl, htm, hrd, hR, hc⟩
            have J108 := HV106.1.all hrd hR hc
            have K109 := HV106.2.keep hc (fun q hq e => by have h1 := HV106.1.I.l1; have h2 := HV106.1.I.l2; have h3 := HV106.1.I.l4; have h4 := HV106.1.g; omega)
            have HTM := Lib.hid (show TmC (fun q => g5 + 1 ≤ q ∧ (Value.slice oz ts.length pz).ownBlock ≠ some q) h107 cj kj from htm.mono fun q hq => ⟨by have h1 := HV106.1.T.lt; have hq : v105.heap.size ≤ q := hq; omega, fun e => by have h1 := (HV106.2.lt q e).2; have hq : v105.heap.size ≤ q := hq; omega⟩)
            clear htm hrd hR hc
            obtain ⟨aj, pj, rfl, -, -, -⟩ := HTM.out.shape
            go_wp2_with fail
            refine QK.normal ⟨fun _ => (J108.T.cell 4), ?_⟩
            refine' wpAnyM_one 6 (by kernel_rfl) ?_ ?_; rotate_left; (simp only [List.getElem?_toArray, List.getElem?_cons_zero, List.getElem?_cons_succ]; rfl)
            refine wpList_slice_t1 h107 rfl (.tmp 96) rfl (tmC kj.k kj.u kj.n kj.s (.slice aj kj.ks.length pj)) rfl rfl ?_
            intro h110 hb hbel hsz
            have J111 := J108.low hbel
            have K112 := K109.below hbel
            have HTM2 := Lib.hid (And.intro (HTM.out.below hbel) hb)
            clear hb hbel hsz
            simp only [Act.put, List.setIfInBounds_toArray, List.set_cons_zero, List.set_cons_succ]
            refine QK.normal ⟨fun _ => (J111.T.cell 4), ?_⟩
            refine' wpAnyM_one 7 (by kernel_rfl) ?_ ?_; rotate_left; (simp only [List.getElem?_toArray, List.getElem?_cons_zero, List.getElem?_cons_succ]; rfl)
            at_builtin
            refine wpList_append_T (.tmp 92) (.tmp 97) rfl rfl K112 rfl rfl HTM2.out.2 HTM2.out.1 HLT.out (by have := J111.T.lt; omega) ?_
            intro oy py h113 K115 hc hat
            have J114 : TmI w gr b rr w.heap.size g5 (tmC k u n s (.slice oz ts.length pz)) ((walkM kj (d + 1) lj).2) (bytesTL (ks.drop (j + 1)) ++ rest) h113 := by
              have h1 := J111.I.l1; have h2 := J111.I.l2; have h3 := J111.I.l4; have h4 := J111.g; have h5 := J111.I.l3
              have hk : ∀ q, (Value.slice oz ts.length pz).ownBlock = some q → g5 + 1 ≤ q := fun q hq => (K112.lt q hq).1
              exact ⟨⟨J111.I.rd.keep hc (fun e => by have := hk _ e; omega) (fun e => by have := hk _ e; omega), J111.I.R.keep hc (fun e => by have := hk _ e; omega), J111.I.res.keep hc (fun e => by have := hk _ e; omega), J111.I.ch.trans' hc (fun i hi e => by have := hk _ e; omega), J111.I.n1, J111.I.n2, h1, h2, h5, h3⟩, J111.T.keep hc (fun e => by have := hk _ e; omega), h4⟩
            clear hc hat
            simp only [Act.put, List.setIfInBounds_toArray, List.set_cons_zero, List.set_cons_succ]
            refine QK.normal ⟨fun _ => (J114.T.cell 4), ?_⟩
            refine wpAnyM_takes (by kernel_rfl) noPanic_any (fuel := 1) (J114.T.cell 4) [8] _ _ (by kernel_rfl) ?_
            refine' HeldL.run ?_ ?_ ?_ ?_; rotate_left 2; (simp only [List.getElem?_toArray, List.getElem?_cons_zero, List.getElem?_cons_succ]; rfl); rfl; (rintro w' k0; go_simp; with_reducible rfl); simp only [Act.put, List.setIfInBounds_toArray, List.set_cons_zero, List.set_cons_succ]
            refine' wpAnyM_one 9 (by kernel_rfl) ?_ ?_; rotate_left; (simp only [List.getElem?_toArray, List.getElem?_cons_zero, List.getElem?_cons_succ]; rfl)
            refine wpList_store1 h113 rfl 22 (.tmp 99) (.tmp 98) rfl g5 4 24 _ J114.T rfl (.slice oy (ts ++ [kj]).length py) rfl (by simp [tmC]) Try.sizeTs1 rfl rfl ?_
            intro h116 hb hc hs
            have J117 : TmI w gr b rr w.heap.size g5 (tmC k u n s (.slice oy (ts ++ [kj]).length py)) ((walkM kj (d + 1) lj).2) (bytesTL (ks.drop (j + 1)) ++ rest) h116 := J114.setT hb hc
            have K118 := K115.keep hc (fun q hq e => by have e : q = g5 := e; omega)
            clear hb hc hs
            try simp only [Act.put, List.setIfInBounds_toArray, List.set_cons_zero, List.set_cons_succ]
            refine QK.normal ⟨fun h => absurd h (by decide), ?_⟩
            refine wpAnyM_done (by kernel_rfl) ?_ _
            refine NoPanic.normal ?_
            go_wp2_with fail
            go_roundw
            case rel => exact ⟨j + 1, _, oy, py, ts ++ [kj], by go_num, by omega, HBD.out.1, by have := HBD.out.2; omega, HTK, HQ3, J117, K118⟩
            case measure => simp [intOf]; omega
          · have hge : ¬ (j : Int) < (m : Int) := by omega
            have HE := Lib.hid (show ts = ks ∧ lj = lf ∧ ks.drop j = [] from by
              have h1 := List.drop_of_length_le (l := ks) (i := j) (by rw [HM.out]; omega)
              have h2 := HQ.out
              rw [h1, walkL] at h2
              refine ⟨by rw [HTS.out, List.take_of_length_le (by rw [HM.out]; omega)], by simpa using h2, h1⟩)
            go_wp2_with (first
    | (with_reducible refine wpList_load_any rfl 24 (.tmp 5) rfl g5 0 rfl (tmC k u n s (.slice oz ts.length pz)) _ (rangeW_blk JR.T) Try.underlying24 rfl (tmC_info _ _ _ _ _) ?_)
    | ((with_reducible refine wpList_store_blk wr rfl 24 (.tmp 4) (.tmp 101) rfl w.heap.size 24 (tmC 0 0 0 ⟨#[]⟩ (.slice none 0 0)) (tmC k u n s (.slice oz ts.length pz)) JR.I.res rfl rfl rfl (tmC_info _ _ _ _ _) (tmC_one _ _ _ _ _ _ _) ?_); intro z1 hb hc hs; have HZ := Lib.hid (And.intro hb hc); clear hb hc hs))
            refine bodyPost_ret (results_blk Try.results43 _ _ w.heap.size _ _ rfl HZ.out.1 _ Try.underlying24 rfl (tmC_info _ _ _ _ _)) rfl ?_
            have h1 := JR.I.l1; have h2 := JR.I.l2; have h3 := JR.I.l4; have h4 := JR.g; have h5 := JR.I.l3
            have k1 := (KR.keep HZ.out.2 (fun q hq e => by have e : q = w.heap.size := e; omega)).slt.mono (G := (w.heap.size ≤ ·)) (fun q hq => by omega)
            have k2 := JR.I.rd.keep HZ.out.2 (fun e => by have e : b = w.heap.size := e; omega) (fun e => by have e : rr = w.heap.size := e; omega)
            rw [HE.out.2.2, bytesTL, List.nil_append] at k2
            have k3 := JR.I.R.keep HZ.out.2 (fun e => by have e : gr = w.heap.size := e; omega)
            rw [HE.out.2.1] at k3
            rw [HE.out.1] at k1
            refine ⟨_, rfl, TmC_iff.2 ⟨_, rfl, ?_⟩, k2, k3, JR.I.ch.trans' HZ.out.2 (fun i hi e => by have e : i = w.heap.size := e; omega)⟩
            rw [HE.out.1]; exact k1
      · have hw4 : wrap64 n = n := by have h := HPN.out; simp at h; unfold wrap64; omega
        have c0 := J104.I.R.cell 0
        simp only [List.getElem?_cons_zero] at c0
        go_wp2_with fail
        refine (u16_be b rr n r4 b103 (by have h := J104.I.rd; have e : r3 = beF n 2 ++ r4 := HR3.out.symm; rw [e] at h; exact h) (by have := J104.I.l3; have := J104.I.ch.size; omega) HAB.out.2.2.2.2 (by have h := HPN.out; simpa using h)).mono ?_
        rintro e' b119 ⟨rfl, hrd, hc⟩
        have J120 := J104.read hrd hc
        clear hrd hc c0
        go_wp2_with (first
    | ((with_reducible refine wpList_store1 b119 rfl 3 (.tmp 84) (.tmp 83) rfl g5 2 24 _ J120.T rfl (.int .i64 n) ?_ (by simp [tmC]) Try.sizeInt1 rfl rfl ?_); (focus (first | rfl | exact congrArg (Value.int IntKind.i64) hw4)); intro b121 hb hc hs; have J122 : TmI w gr b rr w.heap.size g5 (tmC k u n s (.slice none 0 0)) (l - 1) (r4) b121 := J120.setT hb hc; clear hb hc hs))
        refine (need_ok gr b rr _ _ b121 J122.I.rd J122.I.R).mono ?_
        rintro e' w' ⟨rfl, rfl⟩
        go_wp2_with fail
        refine (HKD.out b121).mono ?_
        rintro e' w' ⟨rfl, rfl⟩
        go_wp2_with fail
        go_loopw [89] (fun i wr => ∃ (j : Nat) (lj : Int) (oz : Option Addr) (pz : Nat) (ts : List Tm), i = .int .i64 j ∧ j ≤ m ∧ 0 ≤ lj ∧ lj ≤ 1200 ∧ Hid (ts = ks.take j) ∧ Hid (walkL (ks.drop j) (d + 1) lj = (true, lf)) ∧ TmI w gr b rr w.heap.size g5 (tmC k u n s (.slice oz ts.length pz)) (lj) (bytesTL (ks.drop j) ++ rest) wr ∧ KidI (g5 + 1) (.slice oz ts.length pz) ts wr) (fun i _ => m - (intOf i).toNat)
        case atStart => exact ⟨0, l - 1, none, 0, [], rfl, Nat.zero_le _, hl2, by omega, Lib.hid (by rw [List.take_zero]), Lib.hid (by rw [List.drop_zero]; exact HW.out), by rw [List.drop_zero, HR4.out]; exact J122, KidI.nil _ _⟩
        case round =>
          clear J122
          obtain ⟨j, lj, oz, pz, ts, rfl, hj, hlj0, hlj1, HTS, HQ, JR, KR⟩ := hrel
          by_cases hlt : j < m
          · have hjk : j < ks.length := by rw [HM.out]; exact hlt
            have hjz : (j : Int) < (m : Int) := by omega
            have HMEM := Lib.hid (List.getElem_mem hjk)
            have HDR := Lib.hid (List.drop_eq_getElem_cons hjk)
            have HTK := Lib.hid (show ts ++ [ks[j]] = ks.take (j + 1) from by rw [HTS.out, List.take_succ_eq_append_getElem hjk])
            generalize ks[j] = kj at HMEM HDR HTK
            have HQ2 := Lib.hid (show walkL (kj :: ks.drop (j + 1)) (d + 1) lj = (true, lf) from by rw [← HDR.out]; exact HQ.out)
            have HWK := Lib.hid (show (walkM kj (d + 1) lj).1 = true from by have h := HQ2.out; rw [walkL_cons] at h; by_cases hh : (walkM kj (d + 1) lj).1 = true; exact hh; rw [if_neg hh] at h; cases h)
            have HQ3 := Lib.hid (show walkL (ks.drop (j + 1)) (d + 1) (walkM kj (d + 1) lj).2 = (true, lf) from by have h := HQ2.out; rw [walkL_cons, if_pos HWK.out] at h; exact h)
            have HBD := Lib.hid (walkM_bd kj (d + 1) lj HWK.out)
            have HLT := Lib.hid (show ts.length ≤ 1000000 from by have h1 := HTS.out; rw [h1, List.length_take]; have h2 := HPL.out; have h3 : kidsN k ≤ 2 := kidsN_le k; have h4 : ks.length = kidsN k := h2; omega)
            have JR2 : TmI w gr b rr w.heap.size g5 (tmC k u n s (.slice oz ts.length pz)) (lj) (bytesT kj ++ (bytesTL (ks.drop (j + 1)) ++ rest)) wr := by have h := JR; rw [HDR.out, bytesTL, List.append_assoc] at h; exact h
            have HAK := Lib.hid (show AllB (bytesTL (ks.drop (j + 1)) ++ rest) ∧ (bytesT kj ++ (bytesTL (ks.drop (j + 1)) ++ rest)).length ≤ 1000000 from drop_facts HW.out HAR.out HDR.out HR4.out (show r4.length ≤ 1000000 from by have h1 := HL1.out; rw [← HR1.out, ← HR2.out, ← HR3.out] at h1; simp only [List.length_append] at h1; omega))
            clear JR hjk HDR HQ HQ2
            go_wp2_with fail
            refine wp_region_marked (fun w' => w'.cell? ⟨g5, 4, none⟩ = some (.slice oz ts.length pz)) 9 [0, 1, 2, 3, 4] 5 (by kernel_rfl) rfl (by kernel_rfl) (by kernel_rfl) (JR2.T.cell 4) ?_
            iterate 5 (refine' HeldL.run ?_ ?_ ?_ ?_; rotate_left 2; (simp only [List.getElem?_toArray, List.getElem?_cons_zero, List.getElem?_cons_succ]; rfl); rfl; (rintro w' k0; go_simp; with_reducible rfl); simp only [Act.put, List.setIfInBounds_toArray, List.set_cons_zero, List.set_cons_succ])
            have sm := (Sm.refl wr).drew
            have HV124 := And.intro (JR2.low (sm.below _)) (KR.below (sm.below _))
            clear sm
            generalize wr.drew = v123 at HV124 ⊢
            refine' wpAnyM_one 5 (by kernel_rfl) ?_ ?_; rotate_left; (simp only [List.getElem?_toArray, List.getElem?_cons_zero, List.getElem?_cons_succ]; rfl)
            try simp only [Act.put]
            go_wp2_with fail
            have hx := HIH.out kj HMEM.out (bytesTL (ks.drop (j + 1)) ++ rest) (d + 1) lj gr b rr v123 HWK.out HV124.1.I.rd HV124.1.I.R HV124.1.I.n1 HV124.1.I.n2 (by have := HV124.1.I.l3; have := HV124.1.I.ch.size; omega) HAK.out.1 HAK.out.2 hlj0 hlj1 (by omega) (by omega)
            refine Calls.mono hx ?_
            clear hx
            rintro e' h125 ⟨cj, rfl, htm, hrd, hR, hc⟩
            have J126 := HV124.1.all hrd hR hc
            have K127 := HV124.2.keep hc (fun q hq e => by have h1 := HV124.1.I.l1; have h2 := HV124.1.I.l2; have h3 := HV124.1.I.l4; have h4 := HV124.1.g; omega)
            have HTM := Lib.hid (show TmC (fun q => g5 + 1 ≤ q ∧ (Value.slice oz ts.length pz).ownBlock ≠ some q) h125 cj kj from htm.mono fun q hq => ⟨by have h1 := HV124.1.T.lt; have hq : v123.heap.size ≤ q := hq; omega, fun e => by have h1 := (HV124.2.lt q e).2; have hq : v123.heap.size ≤ q := hq; omega⟩)
            clear htm hrd hR hc
            obtain ⟨aj, pj, rfl, -, -, -⟩ := HTM.out.shape
            go_wp2_with fail
            refine QK.normal ⟨fun _ => (J126.T.cell 4), ?_⟩
            refine' wpAnyM_one 6 (by kernel_rfl) ?_ ?_; rotate_left; (simp only [List.getElem?_toArray, List.getElem?_cons_zero, List.getElem?_cons_succ]; rfl)
            refine wpList_slice_t1 h125 rfl (.tmp 96) rfl (tmC kj.k kj.u kj.n kj.s (.slice aj kj.ks.length pj)) rfl rfl ?_
            intro h128 hb hbel hsz
            have J129 := J126.low hbel
            have K130 := K127.below hbel
            have HTM2 := Lib.hid (And.intro (HTM.out.below hbel) hb)
            clear hb hbel hsz
            simp only [Act.put, List.setIfInBounds_toArray, List.set_cons_zero, List.set_cons_succ]
            refine QK.normal ⟨fun _ => (J129.T.cell 4), ?_⟩
            refine' wpAnyM_one 7 (by kernel_rfl) ?_ ?_; rotate_left; (simp only [List.getElem?_toArray, List.getElem?_cons_zero, List.getElem?_cons_succ]; rfl)
            at_builtin
            refine wpList_append_T (.tmp 92) (.tmp 97) rfl rfl K130 rfl rfl HTM2.out.2 HTM2.out.1 HLT.out (by have := J129.T.lt; omega) ?_
            intro oy py h131 K133 hc hat
            have J132 : TmI w gr b rr w.heap.size g5 (tmC k u n s (.slice oz ts.length pz)) ((walkM kj (d + 1) lj).2) (bytesTL (ks.drop (j + 1)) ++ rest) h131 := by
              have h1 := J129.I.l1; have h2 := J129.I.l2; have h3 := J129.I.l4; have h4 := J129.g; have h5 := J129.I.l3
              have hk : ∀ q, (Value.slice oz ts.length pz).ownBlock = some q → g5 + 1 ≤ q := fun q hq => (K130.lt q hq).1
              exact ⟨⟨J129.I.rd.keep hc (fun e => by have := hk _ e; omega) (fun e => by have := hk _ e; omega), J129.I.R.keep hc (fun e => by have := hk _ e; omega), J129.I.res.keep hc (fun e => by have := hk _ e; omega), J129.I.ch.trans' hc (fun i hi e => by have := hk _ e; omega), J129.I.n1, J129.I.n2, h1, h2, h5, h3⟩, J129.T.keep hc (fun e => by have := hk _ e; omega), h4⟩
            clear hc hat
            simp only [Act.put, List.setIfInBounds_toArray, List.set_cons_zero, List.set_cons_succ]
            refine QK.normal ⟨fun _ => (J132.T.cell 4), ?_⟩
            refine wpAnyM_takes (by kernel_rfl) noPanic_any (fuel := 1) (J132.T.cell 4) [8] _ _ (by kernel_rfl) ?_
            refine' HeldL.run ?_ ?_ ?_ ?_; rotate_left 2; (simp only [List.getElem?_toArray, List.getElem?_cons_zero, List.getElem?_cons_succ]; rfl); rfl; (rintro w' k0; go_simp; with_reducible rfl); simp only [Act.put, List.setIfInBounds_toArray, List.set_cons_zero, List.set_cons_succ]
            refine' wpAnyM_one 9 (by kernel_rfl) ?_ ?_; rotate_left; (simp only [List.getElem?_toArray, List.getElem?_cons_zero, List.getElem?_cons_succ]; rfl)
            refine wpList_store1 h131 rfl 22 (.tmp 99) (.tmp 98) rfl g5 4 24 _ J132.T rfl (.slice oy (ts ++ [kj]).length py) rfl (by simp [tmC]) Try.sizeTs1 rfl rfl ?_
            intro h134 hb hc hs
            have J135 : TmI w gr b rr w.heap.size g5 (tmC k u n s (.slice oy (ts ++ [kj]).length py)) ((walkM kj (d + 1) lj).2) (bytesTL (ks.drop (j + 1)) ++ rest) h134 := J132.setT hb hc
            have K136 := K133.keep hc (fun q hq e => by have e : q = g5 := e; omega)
            clear hb hc hs
            try simp only [Act.put, List.setIfInBounds_toArray, List.set_cons_zero, List.set_cons_succ]
            refine QK.normal ⟨fun h => absurd h (by decide), ?_⟩
            refine wpAnyM_done (by kernel_rfl) ?_ _
            refine NoPanic.normal ?_
            go_wp2_with fail
            go_roundw
            case rel => exact ⟨j + 1, _, oy, py, ts ++ [kj], by go_num, by omega, HBD.out.1, by have := HBD.out.2; omega, HTK, HQ3, J135, K136⟩
            case measure => simp [intOf]; omega
          · have hge : ¬ (j : Int) < (m : Int) := by omega
            have HE := Lib.hid (show ts = ks ∧ lj = lf ∧ ks.drop j = [] from by
              have h1 := List.drop_of_length_le (l := ks) (i := j) (by rw [HM.out]; omega)
              have h2 := HQ.out
              rw [h1, walkL] at h2
              refine ⟨by rw [HTS.out, List.take_of_length_le (by rw [HM.out]; omega)], by simpa using h2, h1⟩)
            go_wp2_with (first
    | (with_reducible refine wpList_load_any rfl 24 (.tmp 5) rfl g5 0 rfl (tmC k u n s (.slice oz ts.length pz)) _ (rangeW_blk JR.T) Try.underlying24 rfl (tmC_info _ _ _ _ _) ?_)
    | ((with_reducible refine wpList_store_blk wr rfl 24 (.tmp 4) (.tmp 101) rfl w.heap.size 24 (tmC 0 0 0 ⟨#[]⟩ (.slice none 0 0)) (tmC k u n s (.slice oz ts.length pz)) JR.I.res rfl rfl rfl (tmC_info _ _ _ _ _) (tmC_one _ _ _ _ _ _ _) ?_); intro z1 hb hc hs; have HZ := Lib.hid (And.intro hb hc); clear hb hc hs))
            refine bodyPost_ret (results_blk Try.results43 _ _ w.heap.size _ _ rfl HZ.out.1 _ Try.underlying24 rfl (tmC_info _ _ _ _ _)) rfl ?_
            have h1 := JR.I.l1; have h2 := JR.I.l2; have h3 := JR.I.l4; have h4 := JR.g; have h5 := JR.I.l3
            have k1 := (KR.keep HZ.out.2 (fun q hq e => by have e : q = w.heap.size := e; omega)).slt.mono (G := (w.heap.size ≤ ·)) (fun q hq => by omega)
            have k2 := JR.I.rd.keep HZ.out.2 (fun e => by have e : b = w.heap.size := e; omega) (fun e => by have e : rr = w.heap.size := e; omega)
            rw [HE.out.2.2, bytesTL, List.nil_append] at k2
            have k3 := JR.I.R.keep HZ.out.2 (fun e => by have e : gr = w.heap.size := e; omega)
            rw [HE.out.2.1] at k3
            rw [HE.out.1] at k1
            refine ⟨_, rfl, TmC_iff.2 ⟨_, rfl, ?_⟩, k2, k3, JR.I.ch.trans' HZ.out.2 (fun i hi e => by have e : i = w.heap.size := e; omega)⟩
            rw [HE.out.1]; exact k1


end Go.Proofs.Ytfenikoajadiaaa
