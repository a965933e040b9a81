/-
  Layer 5: the reference's Copy, walked. Conditions: at most ten kids each.
-/
import Derived.Test.YtfenikoajadiaaaTmN
import Derived.Test.YtfenikoajadiaaaTmU
namespace Go.Proofs.Ytfenikoajadiaaa
open Go Go.RowKit
set_option linter.unusedSimpArgs false
set_option linter.unusedVariables false


mutual
/-- at most ten kids, each -/
def fewT : Tm → Bool
  | .mk _ _ _ _ ks => decide (ks.length ≤ 10) && fewTL ks
def fewTL : List Tm → Bool
  | [] => true
  | t :: ts => fewT t && fewTL ts
end
theorem fewTL_iff : ∀ {ts : List Tm}, fewTL ts = true ↔ ∀ t ∈ ts, fewT t = true
  | [] => by rw [fewTL]; simp
  | t :: ts => by rw [fewTL, Bool.and_eq_true, fewTL_iff]; simp
theorem largeL_few : ∀ (ts : List Tm), (∀ t ∈ ts, ∀ d l, (largeM t d l).1 = false → fewT t = true) → ∀ d l, (largeL ts d l).1 = false → fewTL ts = true
  | [], _, _, _, _ => by rw [fewTL]
  | t :: ts, ih, d, l, h => by
    rw [largeL_cons] at h
    rw [fewTL, Bool.and_eq_true]
    by_cases hk : (largeM t d l).1 = true
    · rw [if_pos hk] at h; cases h
    · rw [if_neg hk] at h
      exact ⟨ih t List.mem_cons_self d l (by simpa using hk), largeL_few ts (fun t ht => ih t (List.mem_cons_of_mem _ ht)) d _ h⟩
theorem largeM_few : ∀ (t : Tm) (d l : Int), (largeM t d l).1 = false → fewT t = true := by
  refine Tm.ind fun k u n s ks ih d l h => ?_
  rw [largeM] at h
  by_cases hk : l - 1 < 0 ∨ 80 < d ∨ 1000 < s.size ∨ 10 < ks.length
  · rw [if_pos hk] at h; cases h
  · rw [if_neg hk] at h
    rw [fewT, Bool.and_eq_true]
    exact ⟨decide_eq_true (by omega), largeL_few ks ih _ _ h⟩
theorem overB_few {t : Tm} (h : overB t = false) : fewT t = true := largeM_few t 1 1500 h
def CopyP (w : World) (t : Tm) (e : Ending) (w' : World) : Prop := ∃ cs, e = .returned (.agg cs.toArray) ∧ TmC (w.heap.size ≤ ·) w' cs t ∧ Below w.heap.size w w'


set_option maxRecDepth 100000 in
set_option maxHeartbeats 8000000 in
theorem rcopy_any : ∀ (t : Tm) (cs : List Value) (F : Nat → Prop) (w : World), fewT t = true → TmC F w cs t → Calls Try.prog 16 #[.agg cs.toArray] w (CopyP w t) := by
  refine Tm.ind fun k u n s ks ih cs F w hf ht => ?_
  obtain ⟨ao, c, rfl, hmc, hcm, hsl⟩ := ht.shape
  simp only [Tm.k, Tm.u, Tm.n, Tm.s, Tm.ks] at hmc hsl ⊢
  rw [fewT, Bool.and_eq_true, decide_eq_true_eq] at hf
  have HIH := Lib.hid (show ∀ t ∈ ks, _ from fun t ht => fun cs F w h => ih t ht cs F w (fewTL_iff.1 hf.2 t ht) h)
  obtain ⟨m, hm⟩ : ∃ m, ks.length = m := ⟨_, rfl⟩
  have HM := Lib.hid hm
  have hm10 : m ≤ 10 := by omega
  rw [hm] at hsl hmc ⊢
  have HSL := Lib.hid hsl.old
  clear ht hsl hm hmc hcm ih hf
  go_enter Try.func16, Try.ntmps16
  go_wp2_with (first
    | ((with_reducible refine wpList_box_blk w rfl 24 (.tmp 0) rfl (tmC k u n s (.slice ao m c)) rfl ?_); intro a1 hb hbel hsz; have H1 := Lib.hid (And.intro hb hbel); clear hb hbel hsz)
    | ((with_reducible refine wpList_alloc_blk a1 rfl 24 rfl (tmC 0 0 0 ⟨#[]⟩ (.slice none 0 0)) Try.zeroTm ?_); intro a2 hb hbel hsz; have H2 := Lib.hid (show Blk a2 w.heap.size 24 (tmC k u n s (.slice ao m c)) ∧ Blk a2 a1.heap.size 24 (tmC 0 0 0 ⟨#[]⟩ (.slice none 0 0)) ∧ Below w.heap.size w a2 from ⟨H1.out.1.below hbel H1.out.1.lt, hb, below_thn H1.out.2 hbel (Nat.le_refl _)⟩); clear hb hbel hsz))
  have HG := Lib.hid (show w.heap.size < a1.heap.size ∧ a1.heap.size < a2.heap.size from ⟨H1.out.1.lt, H2.out.2.1.lt⟩)
  go_loopw [3, 4] (fun q i wr => ∃ (j : Nat) (oz : Option Addr) (nz pz : Nat) (ts : List Tm), q = .slice oz nz pz ∧ i = .int .i64 j ∧ j ≤ m ∧ Hid (ts = ks.take j) ∧ KidI a2.heap.size (.slice oz nz pz) ts wr ∧ Hid (a2.heap.size ≤ wr.heap.size) ∧ Hid (Blk wr w.heap.size 24 (tmC k u n s (.slice ao m c)) ∧ Blk wr a1.heap.size 24 (tmC 0 0 0 ⟨#[]⟩ (.slice none 0 0)) ∧ Below w.heap.size w wr)) (fun _ i _ => m - (intOf i).toNat)
  case atStart => exact ⟨0, none, 0, 0, [], rfl, rfl, Nat.zero_le _, Lib.hid (by rw [List.take_zero]), KidI.nil _ _, Lib.hid (Nat.le_refl _), H2⟩
  case round =>
    obtain ⟨j, oz, nz, pz, ts, rfl, rfl, hj, HTS, KR, HBB, HZ⟩ := hrel
    clear H1 H2
    have c4 := HZ.out.1.cell 4
    simp only [tmC, List.getElem?_cons_zero, List.getElem?_cons_succ] at c4
    by_cases hlt : j < m
    · have hjk : j < ks.length := by rw [HM.out]; exact hlt
      have hjz : (j : Int) < (m : Int) := by omega
      have hj0 : (0 : Int) ≤ (j : Int) := by omega
      obtain ⟨b, o, csj, rfl, -, -, hra, htm⟩ := (HSL.out.below HZ.out.2.2).get hjk
      have HMEM := Lib.hid (List.getElem_mem hjk)
      have HTK := Lib.hid (show ts ++ [ks[j]] = ks.take (j + 1) from by rw [HTS.out, List.take_succ_eq_append_getElem hjk])
      generalize ks[j] = kj at htm HMEM HTK
      obtain ⟨aj, cj, rfl, -, -, -⟩ := htm.shape
      have HRA := Lib.hid hra
      have HTM := Lib.hid htm
      have HLT := Lib.hid (show ts.length ≤ 1000000 from by rw [HTS.out, List.length_take, HM.out]; omega)
      clear hra htm hjk
      go_wp2_with (first
    | (with_reducible refine wpList_load_any rfl 24 (.tmp 16) rfl b (o + j * 5) rfl (tmC kj.k kj.u kj.n kj.s (.slice aj kj.ks.length cj)) _ HRA.out Try.underlying24 rfl (tmC_info _ _ _ _ _) ?_))
      refine (HIH.out kj HMEM.out _ _ wr HTM.out).mono ?_
      rintro e' b1 ⟨cs', rfl, htm, hb⟩
      have K1 := KR.below hb
      have HB1 := Lib.hid (show Blk b1 w.heap.size 24 (tmC k u n s (.slice (some ⟨b, o, none⟩) m c)) ∧ Blk b1 a1.heap.size 24 (tmC 0 0 0 ⟨#[]⟩ (.slice none 0 0)) ∧ Below w.heap.size w b1 from ⟨HZ.out.1.below hb HZ.out.1.lt, HZ.out.2.1.below hb HZ.out.2.1.lt, below_thn HZ.out.2.2 hb (Nat.le_refl _)⟩)
      have HS1 := Lib.hid (show a2.heap.size ≤ b1.heap.size from Nat.le_trans HBB.out hb.size)
      have HN := Lib.hid (show TmC (fun q => a2.heap.size ≤ q ∧ (Value.slice oz nz pz).ownBlock ≠ some q) b1 cs' kj from htm.mono fun q hq => ⟨Nat.le_trans HBB.out hq, fun e => by have h1 := (KR.lt q e).2; have hq : wr.heap.size ≤ q := hq; omega⟩)
      clear htm hb c4
      obtain ⟨ay, cy, rfl, -, -, -⟩ := HN.out.shape
      go_wp2_with (first
    | ((with_reducible refine wpList_slice_t1 b1 rfl (.tmp 18) rfl (tmC kj.k kj.u kj.n kj.s (.slice ay kj.ks.length cy)) rfl rfl ?_); intro b2 hb hbel hsz; have K2 := K1.below hbel; have HB2 := Lib.hid (show Blk b2 w.heap.size 24 (tmC k u n s (.slice (some ⟨b, o, none⟩) m c)) ∧ Blk b2 a1.heap.size 24 (tmC 0 0 0 ⟨#[]⟩ (.slice none 0 0)) ∧ Below w.heap.size w b2 from ⟨HB1.out.1.below hbel HB1.out.1.lt, HB1.out.2.1.below hbel HB1.out.2.1.lt, below_thn HB1.out.2.2 hbel (Nat.le_refl _)⟩); have HN2 := Lib.hid (And.intro hb (HN.out.below hbel)); have HS2 := Lib.hid (show a2.heap.size ≤ b2.heap.size from Nat.le_trans HS1.out hbel.size); clear hb hbel hsz)
    | (at_builtin; (refine wpList_append_T (.tmp 12) (.tmp 19) rfl rfl K2 rfl rfl HN2.out.1 HN2.out.2 HLT.out HS2.out ?_); intro oy py b3 K3 hc hat))
      have HB3 := Lib.hid (show Blk b3 w.heap.size 24 (tmC k u n s (.slice (some ⟨b, o, none⟩) m c)) ∧ Blk b3 a1.heap.size 24 (tmC 0 0 0 ⟨#[]⟩ (.slice none 0 0)) ∧ Below w.heap.size w b3 from ⟨HB2.out.1.keep hc (fun e => by have h1 := (K2.lt _ e).1; have := HG.out; omega), HB2.out.2.1.keep hc (fun e => by have h1 := (K2.lt _ e).1; have := HG.out; omega), below_ch HB2.out.2.2 hc (Nat.le_refl _) (fun q hq => by have h1 := (K2.lt _ hq).1; have := HG.out; omega)⟩)
      have HS3 := Lib.hid (show a2.heap.size ≤ b3.heap.size from Nat.le_trans HS2.out hc.size)
      clear hc hat
      go_wp2_with fail
      go_roundw
      case rel => exact ⟨j + 1, oy, _, py, ts ++ [kj], rfl, by go_num, by omega, HTK, (by rw [List.length_append] at K3; exact K3), HS3, HB3⟩
      case measure => simp [intOf]; omega
    · have hge : ¬ (j : Int) < (m : Int) := by omega
      have HE := Lib.hid (show ts = ks from by rw [HTS.out, List.take_of_length_le (by rw [HM.out]; omega)])
      go_wp2_with (first
    | ((with_reducible refine wpList_store1 wr rfl 22 (.tmp 22) (.tmp 21) rfl w.heap.size 4 24 _ HZ.out.1 rfl (.slice oz nz pz) rfl (by simp [tmC]) Try.sizeTs1 rfl rfl ?_); intro z1 hb hc hs; have HY := Lib.hid (show (Blk z1 w.heap.size 24 (tmC k u n s (.slice oz nz pz)) ∧ Blk z1 a1.heap.size 24 (tmC 0 0 0 ⟨#[]⟩ (.slice none 0 0)) ∧ Below w.heap.size w z1) ∧ KidI a2.heap.size (.slice oz nz pz) ts z1 from ⟨⟨hb, HZ.out.2.1.keep hc (fun e => by have e : a1.heap.size = w.heap.size := e; have := HG.out; omega), below_ch HZ.out.2.2 hc (Nat.le_refl _) (fun q hq => by have e : q = w.heap.size := hq; omega)⟩, KR.keep hc (fun q hq e => by have e : q = w.heap.size := e; have := HG.out; omega)⟩); clear hb hc hs)
    | (with_reducible refine wpList_load_any rfl 24 (.tmp 1) rfl w.heap.size 0 rfl (tmC k u n s (.slice oz nz pz)) _ (rangeW_blk HY.out.1.1) Try.underlying24 rfl (tmC_info _ _ _ _ _) ?_)
    | ((with_reducible refine wpList_store_blk z1 rfl 24 (.tmp 2) (.tmp 23) rfl a1.heap.size 24 (tmC 0 0 0 ⟨#[]⟩ (.slice none 0 0)) (tmC k u n s (.slice oz nz pz)) HY.out.1.2.1 rfl rfl rfl (tmC_info _ _ _ _ _) (tmC_one _ _ _ _ _ _ _) ?_); intro z2 hb hc hs; have HX := Lib.hid (And.intro hb hc); clear hb hc hs))
      refine bodyPost_ret (results_blk Try.results16 _ _ a1.heap.size _ _ rfl HX.out.1 _ Try.underlying24 rfl (tmC_info _ _ _ _ _)) rfl ?_
      have k1 := (HY.out.2.keep HX.out.2 (fun q hq e => by have e : q = a1.heap.size := e; have := HG.out; omega)).slt.mono (G := (w.heap.size ≤ ·)) (fun q hq => by have := HG.out; omega)
      rw [HE.out] at k1
      exact ⟨_, rfl, TmC_iff.2 ⟨_, rfl, k1⟩, below_ch HY.out.1.2.2 HX.out.2 (Nat.le_refl _) (fun q hq => by have e : q = a1.heap.size := hq; have := HG.out; omega)⟩


end Go.Proofs.Ytfenikoajadiaaa
