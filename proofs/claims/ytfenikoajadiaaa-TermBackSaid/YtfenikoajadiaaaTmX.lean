/-
  Layer 5: law 05: wakes, walked. Conditions: none.
-/
import Derived.Test.YtfenikoajadiaaaTmV
import Derived.Test.YtfenikoajadiaaaQt
import Derived.BigQuiet
import Derived.Deep.QuietTactic
namespace Go.Proofs.Ytfenikoajadiaaa
open Go Go.RowKit
set_option linter.unusedSimpArgs false
set_option linter.unusedVariables false


theorem quiet_load_mid {P : Program} {o : Oper} {a : Act} {C : World → Prop} {K : Act → Prop} (ty : TypeId) (x : Operand) (ho : o.op = .load ty x) (b off : Nat) (hx : a.eval x = .pointer (some ⟨b, off, none⟩)) (cs : List Value) (d : TypeDesc)
    (hc : ∀ w, C w → w.rangeAt b off cs) (hu : P.underlying ty = some d) (hd : d.isRow = true) (hi : (P.info? ty).map (·.size) = some cs.length) (h : K (a.put o.dst (.agg cs.toArray))) : o.quiet P a C K :=
  ⟨.agg cs.toArray, fun w hw => by
    have hrun : (execOp a.eval o).run P w = .ok (.value (.agg cs.toArray)) w := by
      unfold execOp
      simp only [ho, hx, Instr.loadAt, Instr.sureAddr, Sem.run_bind, Sem.run_pure, Result.andThen_ok, run_loadVar_mid w b off ty cs d (hc w hw) hu hd hi]
    unfold Oper.quietAt
    rw [hrun]
    exact ⟨rfl, rfl⟩, h⟩

theorem rangeAt_blk {w : World} {g : Nat} {e : TypeId} {xs : List Value} (h : Blk w g e xs) : w.rangeAt g 0 xs := fun j v hv => by rw [Nat.zero_add, h.cell]; exact hv

theorem rangeAt_grew {w : World} {g off : Nat} {xs : List Value} (h : w.rangeAt g off xs) (w' : World) (hw : ∃ p : Regrown, w' = grew w p) : w'.rangeAt g off xs := by
  obtain ⟨p, rfl⟩ := hw
  exact fun j v hv => cell_grew (h j v hv) p


def tF : Tm := .mk 2 1 2 ⟨#[]⟩ []
def tH : Tm := .mk 1 0 0 ⟨#[104, 105]⟩ []
def tW : Tm := .mk 6 0 0 ⟨#[]⟩ [tF, tH]
theorem size_tF : (⟨#[]⟩ : ByteArray).size = 0 := rfl
theorem plain_tF : plainB 2 1 2 ⟨#[]⟩ 0 = true := plainB_iff.2 ⟨by decide, rfl, by decide, .inr rfl, by decide, by decide⟩
theorem plain_tH : plainB 1 0 0 ⟨#[104, 105]⟩ 0 = true := plainB_iff.2 ⟨by decide, rfl, by decide, .inl (by decide), by decide, by decide⟩
theorem plain_tW : plainB 6 0 0 ⟨#[]⟩ 2 = true := plainB_iff.2 ⟨by decide, rfl, by decide, .inr rfl, by decide, by decide⟩
theorem walk_tW : walkM tW 1 1200 = (true, 1197) := by
  unfold tW
  rw [walkM, if_neg (by rw [show ([tF, tH] : List Tm).length = 2 from rfl, plain_tW]; simp)]
  have h1 : walkM tF (1 + 1) (1200 - 1) = (true, 1198) := by
    unfold tF; rw [walkM, if_neg (by rw [show ([] : List Tm).length = 0 from rfl, plain_tF]; simp), walkL]; rfl
  have h2 : walkM tH (1 + 1) 1198 = (true, 1197) := by
    unfold tH; rw [walkM, if_neg (by rw [show ([] : List Tm).length = 0 from rfl, plain_tH]; simp), walkL]; rfl
  rw [walkL_cons, h1, if_pos rfl, walkL_cons, h2, if_pos rfl, walkL]
theorem size_tW : sizeT tW = 3 := by unfold sizeT; rw [walk_tW]; rfl
theorem bytes_tW : bytesT tW = [6, 2, 1, 0, 2, 1, 2, 104, 105] := by
  have e1 : ints ⟨#[104, 105]⟩ = [104, 105] := by decide
  have e2 : beF 2 2 = [0, 2] := by decide
  unfold tW tF tH
  simp only [bytesT, bytesTL, headX]
  rw [show hasB 6 1 = false from rfl, show hasB 6 2 = false from rfl, show hasB 6 4 = false from rfl, show hasB 2 1 = false from rfl, show hasB 2 2 = true from rfl, show hasB 2 4 = true from rfl, show hasB 1 1 = true from rfl, show hasB 1 2 = false from rfl, show hasB 1 4 = false from rfl, e1, e2]
  rfl
theorem enc_tW : encT tW = [6, 2, 1, 0, 2, 1, 2, 104, 105] ∧ checkN tW = 0 := by
  unfold encT checkN
  rw [size_tW, if_neg (by decide), if_neg (by decide)]
  exact ⟨bytes_tW, rfl⟩

set_option maxRecDepth 100000 in
set_option maxHeartbeats 16000000 in
theorem wakes5_any (w : World) : Calls Try.prog 9 #[] w (fun e w' => e = .returned (.bool true) ∧ Below w.heap.size w w') := by
  go_enter Try.func9, Try.ntmps9
  go_wp2_with fail
  refine (fresh_any 1 2 w).mono ?_
  rintro e' a1 ⟨rfl, hb1⟩
  have B1 := Lib.hid hb1
  clear hb1
  go_wp2_with fail
  refine (text_any ⟨#[104, 105]⟩ a1).mono ?_
  rintro e' a2 ⟨rfl, hb⟩
  have B2 := Lib.hid (below_thn B1.out hb (Nat.le_refl _))
  clear hb B1
  go_wp2_with fail
  refine (lock_any 2 1 2 ⟨#[]⟩ none 0 0 1 0 0 ⟨#[104, 105]⟩ none 0 0 a2).mono ?_
  rintro e' a3 ⟨b, rfl, hbk, hlo, hb⟩
  have B3 := Lib.hid (below_thn B2.out hb (Nat.le_refl _))
  have HT := Lib.hid (show TmC (fun _ => True) a3 (tmC 6 0 0 ⟨#[]⟩ (.slice (some ⟨b, 0, none⟩) 2 2)) tW from TwoP.tm (w := a2) hbk trivial (TmC_iff.2 ⟨_, rfl, SlT.nil _ _⟩) (TmC_iff.2 ⟨_, rfl, SlT.nil _ _⟩))
  clear hb hbk hlo B2
  go_wp2_with fail
  refine (encode_any tW _ _ a3 HT.out).mono ?_
  rintro e' a4 ⟨oe, ce, rfl, hrow, hb⟩
  rw [enc_tW.1] at hrow ⊢
  rw [enc_tW.2]
  simp only [List.length_cons, List.length_nil, Nat.zero_add, Nat.reduceAdd] at hrow ⊢
  have B4 := Lib.hid (below_thn B3.out hb (Nat.le_refl _))
  have HE := Lib.hid (Sl.of_owns hrow)
  clear hb hrow B3 HT
  go_wp2_with fail
  refine (decode_ok tW [] (.slice oe 9 ce) 9 a4 (by rw [size_tW]; decide) (by rw [bytes_tW]; exact HE.out) (fun c hc => by cases hc) (by rw [bytes_tW]; rfl) (by decide)).mono ?_
  rintro e' a5 ⟨cs, rfl, htm, hb⟩
  rw [show (bytesT tW).length = 9 from by rw [bytes_tW]; rfl]
  have B5 := Lib.hid (below_thn B4.out hb (Nat.le_refl _))
  have HE5 := Lib.hid (HE.out.below hb (Nat.le_refl _))
  have HT := Lib.hid htm
  obtain ⟨oj, pj, rfl, -, -, -⟩ := htm.shape
  clear hb htm HE B4
  simp only [tW, Tm.k, Tm.u, Tm.n, Tm.s, Tm.ks, List.length_cons, List.length_nil, Nat.zero_add, Nat.reduceAdd] at HT ⊢

  go_wp2_with (first
    | ((with_reducible refine wpList_alloc_blk a5 rfl 24 rfl (tmC 0 0 0 ⟨#[]⟩ (.slice none 0 0)) Try.zeroTm ?_); intro a6 hb hbel hsz; have H6 := Lib.hid (And.intro hb hbel); clear hb hbel hsz)
    | ((with_reducible refine wpList_store_blk a6 rfl 24 (.tmp 3) (.tmp 16) rfl a5.heap.size 24 (tmC 0 0 0 ⟨#[]⟩ (.slice none 0 0)) (tmC 6 0 0 ⟨#[]⟩ (.slice oj 2 pj)) H6.out.1 rfl rfl rfl (tmC_info _ _ _ _ _) (tmC_one _ _ _ _ _ _ _) ?_); intro a7 hb hc hs; have hbw : Below a5.heap.size a5 a7 := below_ch H6.out.2 hc (Nat.le_refl _) (fun k hk => by have e : k = a5.heap.size := hk; omega); have H7 := Lib.hid (show Blk a7 a5.heap.size 24 (tmC 6 0 0 ⟨#[]⟩ (.slice oj 2 pj)) ∧ Below w.heap.size w a7 ∧ Sl a7 (.slice oe 9 ce) (ofK .u8 [6, 2, 1, 0, 2, 1, 2, 104, 105]) ∧ TmC (a4.heap.size ≤ ·) a7 (tmC 6 0 0 ⟨#[]⟩ (.slice oj 2 pj)) (.mk 6 0 0 ⟨#[]⟩ [tF, tH]) from ⟨hb, below_thn B5.out hbw (Nat.le_refl _), HE5.out.below hbw (Nat.le_refl _), HT.out.below hbw⟩); clear hb hc hs hbw))
  clear B5 HE5 HT H6
  obtain ⟨v', e1, hsl⟩ := TmC_iff.1 H7.out.2.2.2
  obtain rfl : v' = .slice oj 2 pj := by simp only [tmC, List.cons.injEq, and_true, true_and] at e1; exact e1.symm
  obtain ⟨bk, ok, ck, rfl, -, -, hra, htk⟩ := hsl.get (j := 1) (by decide)
  rw [show ([tF, tH] : List Tm)[1] = tH from rfl] at htk
  have HK := Lib.hid htk
  obtain ⟨okk, pk, rfl, -, -, -⟩ := htk.shape
  simp only [tH, Tm.k, Tm.u, Tm.n, Tm.s, Tm.ks, List.length_nil] at HK hra
  have HRA := Lib.hid hra
  obtain ⟨oe', ce', ee, le1, le2, hcell⟩ := H7.out.2.2.1.nums
  simp only [List.length_cons, List.length_nil, Nat.zero_add, Nat.reduceAdd, Value.slice.injEq] at ee le1
  obtain ⟨rfl, -, rfl⟩ := ee
  obtain ⟨be, o0, rfl, -, hce⟩ := hcell (by simp)
  have k0 := hce 0 (by simp)
  have k8 := hce 8 (by simp)
  simp only [List.getElem_cons_zero, List.getElem_cons_succ, Nat.add_zero] at k0 k8
  have c4 := H7.out.1.cell 4
  simp only [tmC, List.getElem?_cons_zero, List.getElem?_cons_succ] at c4
  clear hsl e1 hra htk hcell hce
  replace k0 := fun q => cell_grew k0 q
  replace k8 := fun q => cell_grew k8 q
  replace c4 := fun q => cell_grew c4 q
  have C1 := Lib.hid (fun x => show Calls Try.prog 27 #[.string ⟨#[104, 105]⟩] (grew a7 x) (fun e w' => e = .returned (.agg (tmC 1 0 0 ⟨#[104, 105]⟩ (.slice none 0 0)).toArray) ∧ Below (grew a7 x).heap.size (grew a7 x) w') from text_any ⟨#[104, 105]⟩ (grew a7 x))
  have C2 := Lib.hid (fun x => show Calls Try.prog 14 #[.agg (tmC 1 0 0 ⟨#[104, 105]⟩ (.slice okk 0 pk)).toArray, .agg (tmC 1 0 0 ⟨#[104, 105]⟩ (.slice none 0 0)).toArray] (grew a7 x) (fun e w' => e = .returned (.bool true) ∧ Below (grew a7 x).heap.size (grew a7 x) w') from by
    have h := same_any5 (.mk 1 0 0 ⟨#[104, 105]⟩ []) (.mk 1 0 0 ⟨#[104, 105]⟩ []) _ _ _ (fun _ => True) (grew a7 x) (HK.out.below (below_grew a7 x)) (TmC_iff.2 ⟨_, rfl, SlT.nil _ _⟩)
    rw [(sameT_iff _ _).2 rfl] at h
    exact h)

  go_wp2_with fail
  refine wp_region_grew (by kernel_rfl) (by kernel_rfl) ?_
  repeat (first | go_big_quiet_skip | (go_big_quiet_want; (first | (refine quiet_load_mid 24 (.tmp 49) rfl bk (ok + 1 * 5) rfl (tmC 1 0 0 ⟨#[104, 105]⟩ (.slice okk 0 pk)) _ (fun w' hw' => rangeAt_grew HRA.out w' hw') Try.underlying24 rfl (tmC_info _ _ _ _ _) ?_; go_simp; go_big_quiet_on) | (go_big_quiet_op; (first | go_big_quiet_on | (apply Exists.intro; refine ⟨fun _ => ?_, ?_⟩; (focus (first | (go_at_call 27; with_reducible exact calls_grew (C1.out _)) | (go_at_call 14; with_reducible exact calls_grew (C2.out _)))); go_big_quiet_on))))))
  refine wpQuiet_nil ?_
  intro w9 hw9
  obtain ⟨x9, rfl⟩ := hw9
  clear k0 k8 c4 C1 C2
  go_wp2_with fail
  go_ret
  exact ⟨rfl, below_thn H7.out.2.1 (below_grew a7 x9) (Nat.le_refl _)⟩


end Go.Proofs.Ytfenikoajadiaaa
