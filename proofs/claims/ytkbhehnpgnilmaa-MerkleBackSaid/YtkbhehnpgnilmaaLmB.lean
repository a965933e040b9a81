/-
  Law 08: MerkleBack, walked. Conditions: bytes.
-/
import Derived.Test.YtkbhehnpgnilmaaMkZ
import Derived.Lib.MinMax
namespace Go.Proofs.Ytkbhehnpgnilmaa
open Go Go.RowKit
set_option linter.unusedSimpArgs false
set_option linter.unusedVariables false

theorem SlD.len {w : World} {ao : Option Addr} {n c : Nat} {l : List (List Int)} (h : SlD w (.slice ao n c) l) : l.length = n := by obtain ⟨_, _, e, _⟩ := h; simp at e; exact e.2.1.symm
theorem allB_bytesM {n : Int} {C P : List (List Int)} (hC : ∀ x ∈ C, IsD x) (hP : ∀ x ∈ P, IsD x) : AllB (bytesM n C P) := fun c hc => by
  unfold bytesM at hc
  rcases List.mem_append.1 hc with h | h
  · rcases List.mem_append.1 h with h | h
    · have := List.mem_singleton.1 h; omega
    · obtain ⟨x, hx, hcx⟩ := List.mem_flatten.1 h; exact (hC x hx).2 c hcx
  · obtain ⟨x, hx, hcx⟩ := List.mem_flatten.1 h; exact (hP x hx).2 c hcx


theorem Sl.cutB {w : World} {ao : Option Addr} {n c : Nat} {bs : List Int} (h : Sl w (.slice ao n c) (ofK .u8 bs)) (m : Nat) (hm : m ≤ n) : Sl w (.slice ao m c) (ofK .u8 (bs.take m)) := by
  have hn : bs.length = n := by obtain ⟨_, _, e, _⟩ := h.shape; rw [length_ofK] at e; simp at e; exact e.2.1.symm
  have := h.take m (by rw [length_ofK, hn]; exact hm)
  rw [take_ofK] at this
  exact this


set_option maxRecDepth 100000 in
set_option maxHeartbeats 8000000 in
theorem merkleBack_walk (q : SgD) (rv : Value) (R : List Int) (cut : Int) (w : World) (hq : SgOk w q) (hr : Sl w rv (ofK .u8 R)) (hAB : AllB R) (hlen : R.length ≤ 140737488351232) (hcut : -9223372036854775808 ≤ cut ∧ cut ≤ 9223372036854775807) : Calls Try.prog 23 #[.agg (sgD q).toArray, rv, .int .i64 cut] w (TrueP w) := by
  obtain ⟨n, co, cl, cc, C, po, pl, pc, P⟩ := q
  obtain ⟨hn, ⟨hC, nC, dC⟩, ⟨hP, nP, dP⟩⟩ := hq
  simp only at hn hC nC dC hP nP dP
  show Calls Try.prog 23 #[.agg (sgC n (.slice co cl cc) (.slice po pl pc)).toArray, rv, .int .i64 cut] w (TrueP w)
  obtain ⟨ro, rc, rfl, hn1, hn2, -⟩ := hr.shape
  rw [length_ofK] at hn1 hr ⊢
  unfold maxLen at hn2
  obtain ⟨N, hN⟩ : ∃ N, R.length = N := ⟨_, rfl⟩
  have HN := Lib.hid hN
  rw [hN] at hr hn1 hlen ⊢
  have HAB := Lib.hid hAB
  have HCUT := Lib.hid hcut
  have HD := Lib.hid (And.intro (And.intro nC dC) (And.intro nP dP))
  have H0 := Lib.hid (And.intro (Below.refl w.heap.size w) (And.intro hr (And.intro hC hP)))
  clear hr hAB hN hcut hn hC nC dC hP nP dP
  go_enter Try.func23, Try.ntmps23
  go_wp2_with (first
    | ((with_reducible refine wpList_box_blk w rfl 90 (.tmp 0) rfl (sgC n (.slice co cl cc) (.slice po pl pc)) rfl ?_); intro a1 hb hbel hsz; have HA1 := Lib.hid (show Below w.heap.size w a1 ∧ Sl a1 (.slice ro N rc) (ofK .u8 R) ∧ SlD a1 (.slice co cl cc) C ∧ SlD a1 (.slice po pl pc) P ∧ Blk a1 w.heap.size 90 (sgC n (.slice co cl cc) (.slice po pl pc)) from ⟨below_thn H0.out.1 hbel (Nat.le_refl _), H0.out.2.1.below hbel (Nat.le_refl _), H0.out.2.2.1.below hbel, H0.out.2.2.2.below hbel, hb⟩); clear hb hbel hsz))
  have hx := wakes8_any a1
  refine Calls.mono hx ?_
  clear hx
  rintro e' y1 ⟨rfl, hb⟩
  have HY2 := Lib.hid (show Below w.heap.size w y1 ∧ Sl y1 (.slice ro N rc) (ofK .u8 R) ∧ SlD y1 (.slice co cl cc) C ∧ SlD y1 (.slice po pl pc) P ∧ Blk y1 w.heap.size 90 (sgC n (.slice co cl cc) (.slice po pl pc)) from ⟨below_thn HA1.out.1 hb (Nat.le_refl _), HA1.out.2.1.below hb (Nat.le_refl _), HA1.out.2.2.1.below hb, HA1.out.2.2.2.1.below hb, HA1.out.2.2.2.2.below hb HA1.out.2.2.2.2.lt⟩)
  clear hb
  go_wp2_with (first
    | (with_reducible refine wpList_load_any rfl 90 (.tmp 3) rfl w.heap.size 0 rfl (sgC n (.slice co cl cc) (.slice po pl pc)) _ (rangeW_blk HY2.out.2.2.2.2) Try.underlying90 rfl (sgC_info _ _ _) ?_))
  obtain ⟨X, hX⟩ : ∃ X, C.take 70 = X := ⟨_, rfl⟩
  obtain ⟨Y, hY⟩ : ∃ Y, P.take 5 = Y := ⟨_, rfl⟩
  have DX := Lib.hid (show ∀ x ∈ X, IsD x from fun x hx => HD.out.1.2 x (List.mem_of_mem_take (by rw [hX]; exact hx)))
  have DY := Lib.hid (show ∀ x ∈ Y, IsD x from fun x hx => HD.out.2.2 x (List.mem_of_mem_take (by rw [hY]; exact hx)))
  have hx := signed8_any n co po cl cc pl pc C P y1 HY2.out.2.2.1 HY2.out.2.2.2.1 HD.out.1.1 HD.out.2.1 HD.out.1.2 HD.out.2.2
  rw [hX, hY] at hx
  obtain ⟨xl, hxl⟩ : ∃ l, X.length = l := ⟨_, rfl⟩
  obtain ⟨yl, hyl⟩ : ∃ l, Y.length = l := ⟨_, rfl⟩
  have LX := Lib.hid hxl
  have LY := Lib.hid hyl
  unfold SignedP at hx
  rw [hxl, hyl] at hx
  clear hX hY hxl hyl
  refine Calls.mono hx ?_
  clear hx
  rintro e' y3 ⟨so, sc, qo, qc, rfl, hs1, hs2, hb⟩
  have HY4 := Lib.hid (show Below w.heap.size w y3 ∧ Sl y3 (.slice ro N rc) (ofK .u8 R) ∧ SlD y3 (.slice so xl sc) X ∧ SlD y3 (.slice qo yl qc) Y from ⟨below_thn HY2.out.1 hb (Nat.le_refl _), HY2.out.2.1.below hb (Nat.le_refl _), hs1, hs2⟩)
  clear hs1 hs2 hb
  go_wp2_with (first
    | ((with_reducible refine wpList_alloc_blk y3 rfl 90 rfl (sgC 0 (.slice none 0 0) (.slice none 0 0)) Try.zeroSg ?_); intro b5 hb hbel hsz; have HB7 := Lib.hid (And.intro hb hbel); clear hb hbel hsz)
    | ((with_reducible refine wpList_store_blk b5 rfl 90 (.tmp 7) (.tmp 19) rfl y3.heap.size 90 (sgC 0 (.slice none 0 0) (.slice none 0 0)) (sgC n (.slice so xl sc) (.slice qo yl qc)) HB7.out.1 rfl rfl rfl (sgC_info _ _ _) (sgC_one _ _ _ _ _ _ _) ?_); intro b6 hb hc hs; have hb3 := below_ch HB7.out.2 hc (Nat.le_refl _) (fun k hk => Nat.le_of_eq (Eq.symm hk)); have HY8 := Lib.hid (show Below w.heap.size w b6 ∧ Sl b6 (.slice ro N rc) (ofK .u8 R) ∧ SlD b6 (.slice so xl sc) X ∧ SlD b6 (.slice qo yl qc) Y ∧ Blk b6 y3.heap.size 90 (sgC n (.slice so xl sc) (.slice qo yl qc)) from ⟨below_thn HY4.out.1 hb3 (Nat.le_refl _), HY4.out.2.1.below hb3 (Nat.le_refl _), HY4.out.2.2.1.below hb3, HY4.out.2.2.2.below hb3, hb⟩); clear hb hc hs hb3 HB7)
    | (with_reducible refine wpList_load_any rfl 90 (.tmp 7) rfl y3.heap.size 0 rfl (sgC n (.slice so xl sc) (.slice qo yl qc)) _ (rangeW_blk HY8.out.2.2.2.2) Try.underlying90 rfl (sgC_info _ _ _) ?_))
  by_cases hk : (0 ≤ n ∧ n < 8) ∧ xl = 67 ∧ yl = 3
  rotate_left
  · skip
    have hx := encode8_bad n so qo xl sc yl qc b6 hk
    refine Calls.mono hx ?_
    clear hx
    rintro e' y9 ⟨rfl, hb⟩
    have HY10 := Lib.hid (show Below w.heap.size w y9 ∧ Sl y9 (.slice ro N rc) (ofK .u8 R) ∧ SlD y9 (.slice so xl sc) X ∧ SlD y9 (.slice qo yl qc) Y ∧ Blk y9 y3.heap.size 90 (sgC n (.slice so xl sc) (.slice qo yl qc)) from ⟨below_thn HY8.out.1 hb (Nat.le_refl _), HY8.out.2.1.below hb (Nat.le_refl _), HY8.out.2.2.1.below hb, HY8.out.2.2.2.1.below hb, HY8.out.2.2.2.2.below hb HY8.out.2.2.2.2.lt⟩)
    clear hb
    clear hk
    have hmb : min (N : Int) 2300 = ((min N 2300 : Nat) : Int) := by omega
    obtain ⟨mb, hmb2⟩ : ∃ m, min N 2300 = m := ⟨_, rfl⟩
    rw [hmb2] at hmb
    have HMB := Lib.hid (show mb ≤ N ∧ (R.take mb).length = mb from ⟨by omega, by rw [List.length_take, HN.out]; omega⟩)
    have HAT := Lib.hid (show AllB (R.take mb) from fun c hc => HAB.out c (List.mem_of_mem_take hc))
    have hm1 : (mb : Int) ≤ (N : Int) := by omega
    have hm2 : (mb : Int) ≤ (rc : Int) := by omega
    have hm3 : (0 : Int) ≤ (mb : Int) := by omega
    clear hmb2
    go_wp2_with fail
    clear hmb hm1 hm2 hm3
    by_cases hs : mb < 2241
    · skip
      have hx := decode8_short (.slice ro mb rc) (R.take mb) y9 (HY10.out.2.1.cutB mb HMB.out.1) (by rw [HMB.out.2]; exact hs)
      refine Calls.mono hx ?_
      clear hx
      rintro e' y11 ⟨rfl, hb⟩
      have HY12 := Lib.hid (show Below w.heap.size w y11 ∧ Sl y11 (.slice ro N rc) (ofK .u8 R) ∧ SlD y11 (.slice so xl sc) X ∧ SlD y11 (.slice qo yl qc) Y ∧ Blk y11 y3.heap.size 90 (sgC n (.slice so xl sc) (.slice qo yl qc)) from ⟨below_thn HY10.out.1 hb (Nat.le_refl _), HY10.out.2.1.below hb (Nat.le_refl _), HY10.out.2.2.1.below hb, HY10.out.2.2.2.1.below hb, HY10.out.2.2.2.2.below hb HY10.out.2.2.2.2.lt⟩)
      clear hb
      go_wp2_with (first
    | ((with_reducible refine wpList_alloc_blk y11 rfl 90 rfl (sgC 0 (.slice none 0 0) (.slice none 0 0)) Try.zeroSg ?_); intro b13 hb hbel hsz; have HB15 := Lib.hid (And.intro hb hbel); clear hb hbel hsz)
    | ((with_reducible refine wpList_store_blk b13 rfl 90 (.tmp 14) (.tmp 63) rfl y11.heap.size 90 (sgC 0 (.slice none 0 0) (.slice none 0 0)) (sgC 0 (.slice none 0 0) (.slice none 0 0)) HB15.out.1 rfl rfl rfl (sgC_info _ _ _) (sgC_one _ _ _ _ _ _ _) ?_); intro b14 hb hc hs; have hb3 := below_ch HB15.out.2 hc (Nat.le_refl _) (fun k hk => Nat.le_of_eq (Eq.symm hk)); have HY16 := Lib.hid (show Below w.heap.size w b14 ∧ Sl b14 (.slice ro N rc) (ofK .u8 R) ∧ SlD b14 (.slice so xl sc) X ∧ SlD b14 (.slice qo yl qc) Y ∧ Blk b14 y3.heap.size 90 (sgC n (.slice so xl sc) (.slice qo yl qc)) ∧ Blk b14 y11.heap.size 90 (sgC 0 (.slice none 0 0) (.slice none 0 0)) from ⟨below_thn HY12.out.1 hb3 (Nat.le_refl _), HY12.out.2.1.below hb3 (Nat.le_refl _), HY12.out.2.2.1.below hb3, HY12.out.2.2.2.1.below hb3, HY12.out.2.2.2.2.below hb3 HY12.out.2.2.2.2.lt, hb⟩); clear hb hc hs hb3 HB15)
    | (with_reducible refine wpList_load_any rfl 90 (.tmp 14) rfl y11.heap.size 0 rfl (sgC 0 (.slice none 0 0) (.slice none 0 0)) _ (rangeW_blk HY16.out.2.2.2.2.2) Try.underlying90 rfl (sgC_info _ _ _) ?_)
    | ((with_reducible refine wpList_build_zeroSg rfl rfl ?_)))
      have hx := same8_any 0 0 none none none none 0 0 0 0 0 0 0 0 [] [] [] [] b14 (SlD.nil _) (SlD.nil _) (SlD.nil _) (SlD.nil _) (fun _ h => nomatch h) (fun _ h => nomatch h) (fun _ h => nomatch h) (fun _ h => nomatch h)
      rw [show (decide ((0 : Int) = 0) && decide (([] : List (List Int)) = []) && decide (([] : List (List Int)) = [])) = true from rfl] at hx
      refine Calls.mono hx ?_
      clear hx
      rintro e' y17 ⟨rfl, hb⟩
      have HY18 := Lib.hid (show Below w.heap.size w y17 ∧ Sl y17 (.slice ro N rc) (ofK .u8 R) ∧ SlD y17 (.slice so xl sc) X ∧ SlD y17 (.slice qo yl qc) Y ∧ Blk y17 y3.heap.size 90 (sgC n (.slice so xl sc) (.slice qo yl qc)) ∧ Blk y17 y11.heap.size 90 (sgC 0 (.slice none 0 0) (.slice none 0 0)) from ⟨below_thn HY16.out.1 hb (Nat.le_refl _), HY16.out.2.1.below hb (Nat.le_refl _), HY16.out.2.2.1.below hb, HY16.out.2.2.2.1.below hb, HY16.out.2.2.2.2.1.below hb HY16.out.2.2.2.2.1.lt, HY16.out.2.2.2.2.2.below hb HY16.out.2.2.2.2.2.lt⟩)
      clear hb
      go_wp2_with fail
      go_ret
      exact ⟨rfl, HY18.out.1⟩
    by_cases hg : 2241 < mb
    · skip
      have hx := decode8_long (.slice ro mb rc) (R.take mb) y9 (HY10.out.2.1.cutB mb HMB.out.1) (by rw [HMB.out.2]; exact hg)
      refine Calls.mono hx ?_
      clear hx
      rintro e' y19 ⟨rfl, hb⟩
      have HY20 := Lib.hid (show Below w.heap.size w y19 ∧ Sl y19 (.slice ro N rc) (ofK .u8 R) ∧ SlD y19 (.slice so xl sc) X ∧ SlD y19 (.slice qo yl qc) Y ∧ Blk y19 y3.heap.size 90 (sgC n (.slice so xl sc) (.slice qo yl qc)) from ⟨below_thn HY10.out.1 hb (Nat.le_refl _), HY10.out.2.1.below hb (Nat.le_refl _), HY10.out.2.2.1.below hb, HY10.out.2.2.2.1.below hb, HY10.out.2.2.2.2.below hb HY10.out.2.2.2.2.lt⟩)
      clear hb
      go_wp2_with (first
    | ((with_reducible refine wpList_alloc_blk y19 rfl 90 rfl (sgC 0 (.slice none 0 0) (.slice none 0 0)) Try.zeroSg ?_); intro b21 hb hbel hsz; have HB23 := Lib.hid (And.intro hb hbel); clear hb hbel hsz)
    | ((with_reducible refine wpList_store_blk b21 rfl 90 (.tmp 14) (.tmp 63) rfl y19.heap.size 90 (sgC 0 (.slice none 0 0) (.slice none 0 0)) (sgC 0 (.slice none 0 0) (.slice none 0 0)) HB23.out.1 rfl rfl rfl (sgC_info _ _ _) (sgC_one _ _ _ _ _ _ _) ?_); intro b22 hb hc hs; have hb3 := below_ch HB23.out.2 hc (Nat.le_refl _) (fun k hk => Nat.le_of_eq (Eq.symm hk)); have HY24 := Lib.hid (show Below w.heap.size w b22 ∧ Sl b22 (.slice ro N rc) (ofK .u8 R) ∧ SlD b22 (.slice so xl sc) X ∧ SlD b22 (.slice qo yl qc) Y ∧ Blk b22 y3.heap.size 90 (sgC n (.slice so xl sc) (.slice qo yl qc)) ∧ Blk b22 y19.heap.size 90 (sgC 0 (.slice none 0 0) (.slice none 0 0)) from ⟨below_thn HY20.out.1 hb3 (Nat.le_refl _), HY20.out.2.1.below hb3 (Nat.le_refl _), HY20.out.2.2.1.below hb3, HY20.out.2.2.2.1.below hb3, HY20.out.2.2.2.2.below hb3 HY20.out.2.2.2.2.lt, hb⟩); clear hb hc hs hb3 HB23)
    | (with_reducible refine wpList_load_any rfl 90 (.tmp 14) rfl y19.heap.size 0 rfl (sgC 0 (.slice none 0 0) (.slice none 0 0)) _ (rangeW_blk HY24.out.2.2.2.2.2) Try.underlying90 rfl (sgC_info _ _ _) ?_)
    | ((with_reducible refine wpList_build_zeroSg rfl rfl ?_)))
      have hx := same8_any 0 0 none none none none 0 0 0 0 0 0 0 0 [] [] [] [] b22 (SlD.nil _) (SlD.nil _) (SlD.nil _) (SlD.nil _) (fun _ h => nomatch h) (fun _ h => nomatch h) (fun _ h => nomatch h) (fun _ h => nomatch h)
      rw [show (decide ((0 : Int) = 0) && decide (([] : List (List Int)) = []) && decide (([] : List (List Int)) = [])) = true from rfl] at hx
      refine Calls.mono hx ?_
      clear hx
      rintro e' y25 ⟨rfl, hb⟩
      have HY26 := Lib.hid (show Below w.heap.size w y25 ∧ Sl y25 (.slice ro N rc) (ofK .u8 R) ∧ SlD y25 (.slice so xl sc) X ∧ SlD y25 (.slice qo yl qc) Y ∧ Blk y25 y3.heap.size 90 (sgC n (.slice so xl sc) (.slice qo yl qc)) ∧ Blk y25 y19.heap.size 90 (sgC 0 (.slice none 0 0) (.slice none 0 0)) from ⟨below_thn HY24.out.1 hb (Nat.le_refl _), HY24.out.2.1.below hb (Nat.le_refl _), HY24.out.2.2.1.below hb, HY24.out.2.2.2.1.below hb, HY24.out.2.2.2.2.1.below hb HY24.out.2.2.2.2.1.lt, HY24.out.2.2.2.2.2.below hb HY24.out.2.2.2.2.2.lt⟩)
      clear hb
      go_wp2_with fail
      go_ret
      exact ⟨rfl, HY26.out.1⟩
    have hm : mb = 2241 := by omega
    obtain ⟨c0, hc0⟩ : ∃ c, (R.take mb)[0]? = some c := ⟨_, List.getElem?_eq_getElem (by rw [HMB.out.2]; omega)⟩
    clear hs hg
    by_cases h8 : 0 ≤ c0 ∧ c0 < 8
    rotate_left
    · skip
      have hx := decode8_leaf (.slice ro mb rc) (R.take mb) y9 (HY10.out.2.1.cutB mb HMB.out.1) HAT.out (by rw [HMB.out.2]; exact hm) c0 hc0 h8
      refine Calls.mono hx ?_
      clear hx
      rintro e' y27 ⟨rfl, hb⟩
      have HY28 := Lib.hid (show Below w.heap.size w y27 ∧ Sl y27 (.slice ro N rc) (ofK .u8 R) ∧ SlD y27 (.slice so xl sc) X ∧ SlD y27 (.slice qo yl qc) Y ∧ Blk y27 y3.heap.size 90 (sgC n (.slice so xl sc) (.slice qo yl qc)) from ⟨below_thn HY10.out.1 hb (Nat.le_refl _), HY10.out.2.1.below hb (Nat.le_refl _), HY10.out.2.2.1.below hb, HY10.out.2.2.2.1.below hb, HY10.out.2.2.2.2.below hb HY10.out.2.2.2.2.lt⟩)
      clear hb
      go_wp2_with (first
    | ((with_reducible refine wpList_alloc_blk y27 rfl 90 rfl (sgC 0 (.slice none 0 0) (.slice none 0 0)) Try.zeroSg ?_); intro b29 hb hbel hsz; have HB31 := Lib.hid (And.intro hb hbel); clear hb hbel hsz)
    | ((with_reducible refine wpList_store_blk b29 rfl 90 (.tmp 14) (.tmp 63) rfl y27.heap.size 90 (sgC 0 (.slice none 0 0) (.slice none 0 0)) (sgC 0 (.slice none 0 0) (.slice none 0 0)) HB31.out.1 rfl rfl rfl (sgC_info _ _ _) (sgC_one _ _ _ _ _ _ _) ?_); intro b30 hb hc hs; have hb3 := below_ch HB31.out.2 hc (Nat.le_refl _) (fun k hk => Nat.le_of_eq (Eq.symm hk)); have HY32 := Lib.hid (show Below w.heap.size w b30 ∧ Sl b30 (.slice ro N rc) (ofK .u8 R) ∧ SlD b30 (.slice so xl sc) X ∧ SlD b30 (.slice qo yl qc) Y ∧ Blk b30 y3.heap.size 90 (sgC n (.slice so xl sc) (.slice qo yl qc)) ∧ Blk b30 y27.heap.size 90 (sgC 0 (.slice none 0 0) (.slice none 0 0)) from ⟨below_thn HY28.out.1 hb3 (Nat.le_refl _), HY28.out.2.1.below hb3 (Nat.le_refl _), HY28.out.2.2.1.below hb3, HY28.out.2.2.2.1.below hb3, HY28.out.2.2.2.2.below hb3 HY28.out.2.2.2.2.lt, hb⟩); clear hb hc hs hb3 HB31)
    | (with_reducible refine wpList_load_any rfl 90 (.tmp 14) rfl y27.heap.size 0 rfl (sgC 0 (.slice none 0 0) (.slice none 0 0)) _ (rangeW_blk HY32.out.2.2.2.2.2) Try.underlying90 rfl (sgC_info _ _ _) ?_)
    | ((with_reducible refine wpList_build_zeroSg rfl rfl ?_)))
      have hx := same8_any 0 0 none none none none 0 0 0 0 0 0 0 0 [] [] [] [] b30 (SlD.nil _) (SlD.nil _) (SlD.nil _) (SlD.nil _) (fun _ h => nomatch h) (fun _ h => nomatch h) (fun _ h => nomatch h) (fun _ h => nomatch h)
      rw [show (decide ((0 : Int) = 0) && decide (([] : List (List Int)) = []) && decide (([] : List (List Int)) = [])) = true from rfl] at hx
      refine Calls.mono hx ?_
      clear hx
      rintro e' y33 ⟨rfl, hb⟩
      have HY34 := Lib.hid (show Below w.heap.size w y33 ∧ Sl y33 (.slice ro N rc) (ofK .u8 R) ∧ SlD y33 (.slice so xl sc) X ∧ SlD y33 (.slice qo yl qc) Y ∧ Blk y33 y3.heap.size 90 (sgC n (.slice so xl sc) (.slice qo yl qc)) ∧ Blk y33 y27.heap.size 90 (sgC 0 (.slice none 0 0) (.slice none 0 0)) from ⟨below_thn HY32.out.1 hb (Nat.le_refl _), HY32.out.2.1.below hb (Nat.le_refl _), HY32.out.2.2.1.below hb, HY32.out.2.2.2.1.below hb, HY32.out.2.2.2.2.1.below hb HY32.out.2.2.2.2.1.lt, HY32.out.2.2.2.2.2.below hb HY32.out.2.2.2.2.2.lt⟩)
      clear hb
      go_wp2_with fail
      go_ret
      exact ⟨rfl, HY34.out.1⟩
    have hx := decode8_ok (.slice ro mb rc) (R.take mb) y9 (HY10.out.2.1.cutB mb HMB.out.1) HAT.out (by rw [HMB.out.2]; exact hm) c0 hc0 h8.1 h8.2
    have HBK := Lib.hid (bytes_back (by rw [HMB.out.2]; exact hm) hc0 h8.1 h8.2)
    have HCD := Lib.hid (show ∀ i, i < 70 → IsD (chunkF (R.take mb) i) from fun i hi => chunk_D HAT.out (by rw [HMB.out.2]; exact hm) hi)
    have H8 := Lib.hid h8
    clear hc0 h8 hm
    refine Calls.mono hx ?_
    clear hx
    rintro e' y35 ⟨so2, sc2, po2, pc2, rfl, hs1, hs2, hb⟩
    have HY36 := Lib.hid (show Below w.heap.size w y35 ∧ Sl y35 (.slice ro N rc) (ofK .u8 R) ∧ SlD y35 (.slice so xl sc) X ∧ SlD y35 (.slice qo yl qc) Y ∧ Blk y35 y3.heap.size 90 (sgC n (.slice so xl sc) (.slice qo yl qc)) ∧ SlD y35 (.slice so2 67 sc2) (rowL (chunkF (R.take mb)) 67) ∧ SlD y35 (.slice po2 3 pc2) ((rowL (chunkF (R.take mb)) 70).drop 67) from ⟨below_thn HY10.out.1 hb (Nat.le_refl _), HY10.out.2.1.below hb (Nat.le_refl _), HY10.out.2.2.1.below hb, HY10.out.2.2.2.1.below hb, HY10.out.2.2.2.2.below hb HY10.out.2.2.2.2.lt, hs1, hs2⟩)
    clear hs1 hs2 hb
    go_wp2_with (first
    | ((with_reducible refine wpList_alloc_blk y35 rfl 90 rfl (sgC 0 (.slice none 0 0) (.slice none 0 0)) Try.zeroSg ?_); intro b37 hb hbel hsz; have HB39 := Lib.hid (And.intro hb hbel); clear hb hbel hsz)
    | ((with_reducible refine wpList_store_blk b37 rfl 90 (.tmp 14) (.tmp 63) rfl y35.heap.size 90 (sgC 0 (.slice none 0 0) (.slice none 0 0)) (sgC c0 (.slice so2 67 sc2) (.slice po2 3 pc2)) HB39.out.1 rfl rfl rfl (sgC_info _ _ _) (sgC_one _ _ _ _ _ _ _) ?_); intro b38 hb hc hs; have hb3 := below_ch HB39.out.2 hc (Nat.le_refl _) (fun k hk => Nat.le_of_eq (Eq.symm hk)); have HY40 := Lib.hid (show Below w.heap.size w b38 ∧ Sl b38 (.slice ro N rc) (ofK .u8 R) ∧ SlD b38 (.slice so xl sc) X ∧ SlD b38 (.slice qo yl qc) Y ∧ Blk b38 y3.heap.size 90 (sgC n (.slice so xl sc) (.slice qo yl qc)) ∧ SlD b38 (.slice so2 67 sc2) (rowL (chunkF (R.take mb)) 67) ∧ SlD b38 (.slice po2 3 pc2) ((rowL (chunkF (R.take mb)) 70).drop 67) ∧ Blk b38 y35.heap.size 90 (sgC c0 (.slice so2 67 sc2) (.slice po2 3 pc2)) from ⟨below_thn HY36.out.1 hb3 (Nat.le_refl _), HY36.out.2.1.below hb3 (Nat.le_refl _), HY36.out.2.2.1.below hb3, HY36.out.2.2.2.1.below hb3, HY36.out.2.2.2.2.1.below hb3 HY36.out.2.2.2.2.1.lt, HY36.out.2.2.2.2.2.1.below hb3, HY36.out.2.2.2.2.2.2.below hb3, hb⟩); clear hb hc hs hb3 HB39)
    | (with_reducible refine wpList_load_any rfl 90 (.tmp 14) rfl y35.heap.size 0 rfl (sgC c0 (.slice so2 67 sc2) (.slice po2 3 pc2)) _ (rangeW_blk HY40.out.2.2.2.2.2.2.2) Try.underlying90 rfl (sgC_info _ _ _) ?_))
    have HD1 := Lib.hid (show (∀ x ∈ rowL (chunkF (R.take mb)) 67, IsD x) ∧ (∀ x ∈ (rowL (chunkF (R.take mb)) 70).drop 67, IsD x) from ⟨rowL_D (fun i hi => HCD.out i (by omega)), fun x hx => rowL_D HCD.out x (List.mem_of_mem_drop hx)⟩)
    have hx := encode8_ok c0 so2 po2 67 sc2 3 pc2 _ _ b38 HY40.out.2.2.2.2.2.1 HY40.out.2.2.2.2.2.2.1 HD1.out.1 HD1.out.2 H8.out.1 H8.out.2 rfl rfl
    rw [HBK.out] at hx
    refine Calls.mono hx ?_
    clear hx
    rintro e' y41 ⟨ve, rfl, hown, hb⟩
    have hsl := Sl.of_owns hown
    obtain ⟨fo, fc, rfl⟩ := own_shape hown
    generalize (R.take mb).length = fl at hown hsl
    have HY42 := Lib.hid (show Below w.heap.size w y41 ∧ Sl y41 (.slice ro N rc) (ofK .u8 R) ∧ SlD y41 (.slice so xl sc) X ∧ SlD y41 (.slice qo yl qc) Y ∧ Blk y41 y3.heap.size 90 (sgC n (.slice so xl sc) (.slice qo yl qc)) ∧ SlD y41 (.slice so2 67 sc2) (rowL (chunkF (R.take mb)) 67) ∧ SlD y41 (.slice po2 3 pc2) ((rowL (chunkF (R.take mb)) 70).drop 67) ∧ Blk y41 y35.heap.size 90 (sgC c0 (.slice so2 67 sc2) (.slice po2 3 pc2)) ∧ Sl y41 (.slice fo fl fc) (ofK .u8 (R.take mb)) from ⟨below_thn HY40.out.1 hb (Nat.le_refl _), HY40.out.2.1.below hb (Nat.le_refl _), HY40.out.2.2.1.below hb, HY40.out.2.2.2.1.below hb, HY40.out.2.2.2.2.1.below hb HY40.out.2.2.2.2.1.lt, HY40.out.2.2.2.2.2.1.below hb, HY40.out.2.2.2.2.2.2.1.below hb, HY40.out.2.2.2.2.2.2.2.below hb HY40.out.2.2.2.2.2.2.2.lt, hsl⟩)
    clear hown hsl hb
    go_wp2_with fail
    refine (bytesEqual_of _ _ (R.take mb) (R.take mb) y41 true HY42.out.2.2.2.2.2.2.2.2 (HY42.out.2.1.cutB mb HMB.out.1) HAT.out HAT.out (decide_eq_true rfl)).mono ?_
    rintro e' w9 ⟨rfl, rfl⟩
    go_wp2_with fail
    go_ret
    exact ⟨rfl, HY42.out.1⟩
  obtain ⟨hk1, rfl, rfl⟩ := hk
  have HK := Lib.hid hk1
  have HBL := Lib.hid (show (bytesM n X Y).length = 2241 from by rw [bytesM_length DX.out DY.out, LX.out, LY.out])
  have HAM := Lib.hid (allB_bytesM (n := n) DX.out DY.out)
  have HRB := Lib.hid (rows_back (n := n) DX.out DY.out LX.out LY.out)
  have hx := encode8_ok n so qo 67 sc 3 qc X Y b6 HY8.out.2.2.1 HY8.out.2.2.2.1 DX.out DY.out hk1.1 hk1.2 rfl rfl
  clear hk1
  rw [HBL.out] at hx
  refine Calls.mono hx ?_
  clear hx
  rintro e' y43 ⟨ve, rfl, hown, hb⟩
  have hsl := Sl.of_owns hown
  obtain ⟨eo, ec, rfl⟩ := own_shape hown
  have hec : 2241 ≤ ec ∧ ec ≤ 9223372036854775807 := by obtain ⟨_, _, e, h1, h2, _⟩ := hsl.shape; unfold maxLen at h2; rw [length_ofK, HBL.out] at e h1; simp at e; omega
  have HY44 := Lib.hid (show Below w.heap.size w y43 ∧ Sl y43 (.slice ro N rc) (ofK .u8 R) ∧ SlD y43 (.slice so 67 sc) X ∧ SlD y43 (.slice qo 3 qc) Y ∧ Blk y43 y3.heap.size 90 (sgC n (.slice so 67 sc) (.slice qo 3 qc)) ∧ Sl y43 (.slice eo 2241 ec) (ofK .u8 (bytesM n X Y)) from ⟨below_thn HY8.out.1 hb (Nat.le_refl _), HY8.out.2.1.below hb (Nat.le_refl _), HY8.out.2.2.1.below hb, HY8.out.2.2.2.1.below hb, HY8.out.2.2.2.2.below hb HY8.out.2.2.2.2.lt, hsl⟩)
  clear hown hsl hb
  go_wp2_with fail
  have hx := decode8_ok (.slice eo 2241 ec) (bytesM n X Y) y43 HY44.out.2.2.2.2.2 HAM.out HBL.out n (by unfold bytesM; rw [show n % 256 = n by have := HK.out; omega]; rfl) HK.out.1 HK.out.2
  rw [HRB.out.1, HRB.out.2] at hx
  refine Calls.mono hx ?_
  clear hx
  rintro e' y45 ⟨so2, sc2, po2, pc2, rfl, hs1, hs2, hb⟩
  have HY46 := Lib.hid (show Below w.heap.size w y45 ∧ Sl y45 (.slice ro N rc) (ofK .u8 R) ∧ SlD y45 (.slice so 67 sc) X ∧ SlD y45 (.slice qo 3 qc) Y ∧ Blk y45 y3.heap.size 90 (sgC n (.slice so 67 sc) (.slice qo 3 qc)) ∧ Sl y45 (.slice eo 2241 ec) (ofK .u8 (bytesM n X Y)) ∧ SlD y45 (.slice so2 67 sc2) X ∧ SlD y45 (.slice po2 3 pc2) Y from ⟨below_thn HY44.out.1 hb (Nat.le_refl _), HY44.out.2.1.below hb (Nat.le_refl _), HY44.out.2.2.1.below hb, HY44.out.2.2.2.1.below hb, HY44.out.2.2.2.2.1.below hb HY44.out.2.2.2.2.1.lt, HY44.out.2.2.2.2.2.below hb (Nat.le_refl _), hs1, hs2⟩)
  clear hs1 hs2 hb
  go_wp2_with (first
    | ((with_reducible refine wpList_alloc_blk y45 rfl 90 rfl (sgC 0 (.slice none 0 0) (.slice none 0 0)) Try.zeroSg ?_); intro b47 hb hbel hsz; have HB49 := Lib.hid (And.intro hb hbel); clear hb hbel hsz)
    | ((with_reducible refine wpList_store_blk b47 rfl 90 (.tmp 10) (.tmp 30) rfl y45.heap.size 90 (sgC 0 (.slice none 0 0) (.slice none 0 0)) (sgC n (.slice so2 67 sc2) (.slice po2 3 pc2)) HB49.out.1 rfl rfl rfl (sgC_info _ _ _) (sgC_one _ _ _ _ _ _ _) ?_); intro b48 hb hc hs; have hb3 := below_ch HB49.out.2 hc (Nat.le_refl _) (fun k hk => Nat.le_of_eq (Eq.symm hk)); have HY50 := Lib.hid (show Below w.heap.size w b48 ∧ Sl b48 (.slice ro N rc) (ofK .u8 R) ∧ SlD b48 (.slice so 67 sc) X ∧ SlD b48 (.slice qo 3 qc) Y ∧ Blk b48 y3.heap.size 90 (sgC n (.slice so 67 sc) (.slice qo 3 qc)) ∧ Sl b48 (.slice eo 2241 ec) (ofK .u8 (bytesM n X Y)) ∧ SlD b48 (.slice so2 67 sc2) X ∧ SlD b48 (.slice po2 3 pc2) Y ∧ Blk b48 y45.heap.size 90 (sgC n (.slice so2 67 sc2) (.slice po2 3 pc2)) from ⟨below_thn HY46.out.1 hb3 (Nat.le_refl _), HY46.out.2.1.below hb3 (Nat.le_refl _), HY46.out.2.2.1.below hb3, HY46.out.2.2.2.1.below hb3, HY46.out.2.2.2.2.1.below hb3 HY46.out.2.2.2.2.1.lt, HY46.out.2.2.2.2.2.1.below hb3 (Nat.le_refl _), HY46.out.2.2.2.2.2.2.1.below hb3, HY46.out.2.2.2.2.2.2.2.below hb3, hb⟩); clear hb hc hs hb3 HB49)
    | (with_reducible refine wpList_load_any rfl 90 (.tmp 10) rfl y45.heap.size 0 rfl (sgC n (.slice so2 67 sc2) (.slice po2 3 pc2)) _ (rangeW_blk HY50.out.2.2.2.2.2.2.2.2) Try.underlying90 rfl (sgC_info _ _ _) ?_)
    | ((with_reducible refine wpList_load_want ?_ 90 (.tmp 10) rfl y45.heap.size 0 rfl (sgC n (.slice so2 67 sc2) (.slice po2 3 pc2)) _ (rangeW_blk HY50.out.2.2.2.2.2.2.2.2) Try.underlying90 rfl (sgC_info _ _ _) ?_); focus rfl)
    | (with_reducible refine wpList_load_any rfl 90 (.tmp 7) rfl y3.heap.size 0 rfl (sgC n (.slice so 67 sc) (.slice qo 3 qc)) _ (rangeW_blk HY50.out.2.2.2.2.1) Try.underlying90 rfl (sgC_info _ _ _) ?_)
    | ((with_reducible refine wpList_load_want ?_ 90 (.tmp 7) rfl y3.heap.size 0 rfl (sgC n (.slice so 67 sc) (.slice qo 3 qc)) _ (rangeW_blk HY50.out.2.2.2.2.1) Try.underlying90 rfl (sgC_info _ _ _) ?_); focus rfl))
  have hx := same8_any n n so2 po2 so qo 67 sc2 3 pc2 67 sc 3 qc X Y X Y b48 HY50.out.2.2.2.2.2.2.1 HY50.out.2.2.2.2.2.2.2.1 HY50.out.2.2.1 HY50.out.2.2.2.1 DX.out DY.out DX.out DY.out
  rw [decide_eq_true (Eq.refl n), decide_eq_true (Eq.refl X), decide_eq_true (Eq.refl Y), show (true && true && true) = true from rfl] at hx
  refine Calls.mono hx ?_
  clear hx
  rintro e' y51 ⟨rfl, hb⟩
  have HY52 := Lib.hid (show Below w.heap.size w y51 ∧ Sl y51 (.slice ro N rc) (ofK .u8 R) ∧ Sl y51 (.slice eo 2241 ec) (ofK .u8 (bytesM n X Y)) from ⟨below_thn HY50.out.1 hb (Nat.le_refl _), HY50.out.2.1.below hb (Nat.le_refl _), HY50.out.2.2.2.2.2.1.below hb (Nat.le_refl _)⟩)
  clear hb
  obtain ⟨mm, hm1, hm2⟩ : ∃ mm : Nat, mm < 2241 ∧ (IntKind.u64.wrap cut).tmod 2241 = (mm : Int) := by
    have h1 : 0 ≤ IntKind.u64.wrap cut := by rw [IntKind.wrap_u64]; omega
    have h2 := Int.emod_nonneg (IntKind.u64.wrap cut) (show (2241 : Int) ≠ 0 by omega)
    have h3 := Int.emod_lt_of_pos (IntKind.u64.wrap cut) (show (0 : Int) < 2241 by omega)
    exact ⟨(IntKind.u64.wrap cut % 2241).toNat, by omega, by rw [Int.tmod_eq_emod_of_nonneg h1]; omega⟩
  have hm3 : (IntKind.u64.wrap cut) % 2241 = (mm : Int) := by rw [← Int.tmod_eq_emod_of_nonneg (by rw [IntKind.wrap_u64]; omega)]; exact hm2
  have hm4 : (mm : Int) ≤ 2241 := by omega
  have hm5 : (mm : Int) ≤ (ec : Int) := by omega
  have hm6 : (0 : Int) ≤ (mm : Int) := by omega
  have HM := Lib.hid hm1
  clear hm1
  go_wp2_with fail
  clear hm2 hm3 hm4 hm5 hm6 hec
  have hx := decode8_short (.slice eo mm ec) ((bytesM n X Y).take mm) y51 (HY52.out.2.2.cutB mm (by have := HM.out; omega)) (by rw [List.length_take, HBL.out]; have := HM.out; omega)
  refine Calls.mono hx ?_
  clear hx
  rintro e' y53 ⟨rfl, hb⟩
  have HY54 := Lib.hid (show Below w.heap.size w y53 ∧ Sl y53 (.slice ro N rc) (ofK .u8 R) ∧ Sl y53 (.slice eo 2241 ec) (ofK .u8 (bytesM n X Y)) from ⟨below_thn HY52.out.1 hb (Nat.le_refl _), HY52.out.2.1.below hb (Nat.le_refl _), HY52.out.2.2.below hb (Nat.le_refl _)⟩)
  clear hb
  have hmb : min (N : Int) 2300 = ((min N 2300 : Nat) : Int) := by omega
  obtain ⟨mb, hmb2⟩ : ∃ m, min N 2300 = m := ⟨_, rfl⟩
  rw [hmb2] at hmb
  have HMB := Lib.hid (show mb ≤ N ∧ (R.take mb).length = mb from ⟨by omega, by rw [List.length_take, HN.out]; omega⟩)
  have HAT := Lib.hid (show AllB (R.take mb) from fun c hc => HAB.out c (List.mem_of_mem_take hc))
  have hm1 : (mb : Int) ≤ (N : Int) := by omega
  have hm2 : (mb : Int) ≤ (rc : Int) := by omega
  have hm3 : (0 : Int) ≤ (mb : Int) := by omega
  clear hmb2
  go_wp2_with (first
    | ((with_reducible refine wpList_alloc_blk y53 rfl 90 rfl (sgC 0 (.slice none 0 0) (.slice none 0 0)) Try.zeroSg ?_); intro b55 hb hbel hsz; have HB57 := Lib.hid (And.intro hb hbel); clear hb hbel hsz)
    | ((with_reducible refine wpList_store_blk b55 rfl 90 (.tmp 12) (.tmp 51) rfl y53.heap.size 90 (sgC 0 (.slice none 0 0) (.slice none 0 0)) (sgC 0 (.slice none 0 0) (.slice none 0 0)) HB57.out.1 rfl rfl rfl (sgC_info _ _ _) (sgC_one _ _ _ _ _ _ _) ?_); intro b56 hb hc hs; have hb3 := below_ch HB57.out.2 hc (Nat.le_refl _) (fun k hk => Nat.le_of_eq (Eq.symm hk)); have HY58 := Lib.hid (show Below w.heap.size w b56 ∧ Sl b56 (.slice ro N rc) (ofK .u8 R) ∧ Sl b56 (.slice eo 2241 ec) (ofK .u8 (bytesM n X Y)) from ⟨below_thn HY54.out.1 hb3 (Nat.le_refl _), HY54.out.2.1.below hb3 (Nat.le_refl _), HY54.out.2.2.below hb3 (Nat.le_refl _)⟩); clear hb hc hs hb3 HB57))
  clear hmb hm1 hm2 hm3
  by_cases hs : mb < 2241
  · skip
    have hx := decode8_short (.slice ro mb rc) (R.take mb) b56 (HY58.out.2.1.cutB mb HMB.out.1) (by rw [HMB.out.2]; exact hs)
    refine Calls.mono hx ?_
    clear hx
    rintro e' y59 ⟨rfl, hb⟩
    have HY60 := Lib.hid (show Below w.heap.size w y59 ∧ Sl y59 (.slice ro N rc) (ofK .u8 R) ∧ Sl y59 (.slice eo 2241 ec) (ofK .u8 (bytesM n X Y)) from ⟨below_thn HY58.out.1 hb (Nat.le_refl _), HY58.out.2.1.below hb (Nat.le_refl _), HY58.out.2.2.below hb (Nat.le_refl _)⟩)
    clear hb
    go_wp2_with (first
    | ((with_reducible refine wpList_alloc_blk y59 rfl 90 rfl (sgC 0 (.slice none 0 0) (.slice none 0 0)) Try.zeroSg ?_); intro b61 hb hbel hsz; have HB63 := Lib.hid (And.intro hb hbel); clear hb hbel hsz)
    | ((with_reducible refine wpList_store_blk b61 rfl 90 (.tmp 14) (.tmp 63) rfl y59.heap.size 90 (sgC 0 (.slice none 0 0) (.slice none 0 0)) (sgC 0 (.slice none 0 0) (.slice none 0 0)) HB63.out.1 rfl rfl rfl (sgC_info _ _ _) (sgC_one _ _ _ _ _ _ _) ?_); intro b62 hb hc hs; have hb3 := below_ch HB63.out.2 hc (Nat.le_refl _) (fun k hk => Nat.le_of_eq (Eq.symm hk)); have HY64 := Lib.hid (show Below w.heap.size w b62 ∧ Sl b62 (.slice ro N rc) (ofK .u8 R) ∧ Sl b62 (.slice eo 2241 ec) (ofK .u8 (bytesM n X Y)) ∧ Blk b62 y59.heap.size 90 (sgC 0 (.slice none 0 0) (.slice none 0 0)) from ⟨below_thn HY60.out.1 hb3 (Nat.le_refl _), HY60.out.2.1.below hb3 (Nat.le_refl _), HY60.out.2.2.below hb3 (Nat.le_refl _), hb⟩); clear hb hc hs hb3 HB63)
    | (with_reducible refine wpList_load_any rfl 90 (.tmp 14) rfl y59.heap.size 0 rfl (sgC 0 (.slice none 0 0) (.slice none 0 0)) _ (rangeW_blk HY64.out.2.2.2) Try.underlying90 rfl (sgC_info _ _ _) ?_)
    | ((with_reducible refine wpList_build_zeroSg rfl rfl ?_)))
    have hx := same8_any 0 0 none none none none 0 0 0 0 0 0 0 0 [] [] [] [] b62 (SlD.nil _) (SlD.nil _) (SlD.nil _) (SlD.nil _) (fun _ h => nomatch h) (fun _ h => nomatch h) (fun _ h => nomatch h) (fun _ h => nomatch h)
    rw [show (decide ((0 : Int) = 0) && decide (([] : List (List Int)) = []) && decide (([] : List (List Int)) = [])) = true from rfl] at hx
    refine Calls.mono hx ?_
    clear hx
    rintro e' y65 ⟨rfl, hb⟩
    have HY66 := Lib.hid (show Below w.heap.size w y65 ∧ Sl y65 (.slice ro N rc) (ofK .u8 R) ∧ Sl y65 (.slice eo 2241 ec) (ofK .u8 (bytesM n X Y)) ∧ Blk y65 y59.heap.size 90 (sgC 0 (.slice none 0 0) (.slice none 0 0)) from ⟨below_thn HY64.out.1 hb (Nat.le_refl _), HY64.out.2.1.below hb (Nat.le_refl _), HY64.out.2.2.1.below hb (Nat.le_refl _), HY64.out.2.2.2.below hb HY64.out.2.2.2.lt⟩)
    clear hb
    go_wp2_with fail
    go_ret
    exact ⟨rfl, HY66.out.1⟩
  by_cases hg : 2241 < mb
  · skip
    have hx := decode8_long (.slice ro mb rc) (R.take mb) b56 (HY58.out.2.1.cutB mb HMB.out.1) (by rw [HMB.out.2]; exact hg)
    refine Calls.mono hx ?_
    clear hx
    rintro e' y67 ⟨rfl, hb⟩
    have HY68 := Lib.hid (show Below w.heap.size w y67 ∧ Sl y67 (.slice ro N rc) (ofK .u8 R) ∧ Sl y67 (.slice eo 2241 ec) (ofK .u8 (bytesM n X Y)) from ⟨below_thn HY58.out.1 hb (Nat.le_refl _), HY58.out.2.1.below hb (Nat.le_refl _), HY58.out.2.2.below hb (Nat.le_refl _)⟩)
    clear hb
    go_wp2_with (first
    | ((with_reducible refine wpList_alloc_blk y67 rfl 90 rfl (sgC 0 (.slice none 0 0) (.slice none 0 0)) Try.zeroSg ?_); intro b69 hb hbel hsz; have HB71 := Lib.hid (And.intro hb hbel); clear hb hbel hsz)
    | ((with_reducible refine wpList_store_blk b69 rfl 90 (.tmp 14) (.tmp 63) rfl y67.heap.size 90 (sgC 0 (.slice none 0 0) (.slice none 0 0)) (sgC 0 (.slice none 0 0) (.slice none 0 0)) HB71.out.1 rfl rfl rfl (sgC_info _ _ _) (sgC_one _ _ _ _ _ _ _) ?_); intro b70 hb hc hs; have hb3 := below_ch HB71.out.2 hc (Nat.le_refl _) (fun k hk => Nat.le_of_eq (Eq.symm hk)); have HY72 := Lib.hid (show Below w.heap.size w b70 ∧ Sl b70 (.slice ro N rc) (ofK .u8 R) ∧ Sl b70 (.slice eo 2241 ec) (ofK .u8 (bytesM n X Y)) ∧ Blk b70 y67.heap.size 90 (sgC 0 (.slice none 0 0) (.slice none 0 0)) from ⟨below_thn HY68.out.1 hb3 (Nat.le_refl _), HY68.out.2.1.below hb3 (Nat.le_refl _), HY68.out.2.2.below hb3 (Nat.le_refl _), hb⟩); clear hb hc hs hb3 HB71)
    | (with_reducible refine wpList_load_any rfl 90 (.tmp 14) rfl y67.heap.size 0 rfl (sgC 0 (.slice none 0 0) (.slice none 0 0)) _ (rangeW_blk HY72.out.2.2.2) Try.underlying90 rfl (sgC_info _ _ _) ?_)
    | ((with_reducible refine wpList_build_zeroSg rfl rfl ?_)))
    have hx := same8_any 0 0 none none none none 0 0 0 0 0 0 0 0 [] [] [] [] b70 (SlD.nil _) (SlD.nil _) (SlD.nil _) (SlD.nil _) (fun _ h => nomatch h) (fun _ h => nomatch h) (fun _ h => nomatch h) (fun _ h => nomatch h)
    rw [show (decide ((0 : Int) = 0) && decide (([] : List (List Int)) = []) && decide (([] : List (List Int)) = [])) = true from rfl] at hx
    refine Calls.mono hx ?_
    clear hx
    rintro e' y73 ⟨rfl, hb⟩
    have HY74 := Lib.hid (show Below w.heap.size w y73 ∧ Sl y73 (.slice ro N rc) (ofK .u8 R) ∧ Sl y73 (.slice eo 2241 ec) (ofK .u8 (bytesM n X Y)) ∧ Blk y73 y67.heap.size 90 (sgC 0 (.slice none 0 0) (.slice none 0 0)) from ⟨below_thn HY72.out.1 hb (Nat.le_refl _), HY72.out.2.1.below hb (Nat.le_refl _), HY72.out.2.2.1.below hb (Nat.le_refl _), HY72.out.2.2.2.below hb HY72.out.2.2.2.lt⟩)
    clear hb
    go_wp2_with fail
    go_ret
    exact ⟨rfl, HY74.out.1⟩
  have hm : mb = 2241 := by omega
  obtain ⟨c0, hc0⟩ : ∃ c, (R.take mb)[0]? = some c := ⟨_, List.getElem?_eq_getElem (by rw [HMB.out.2]; omega)⟩
  clear hs hg
  by_cases h8 : 0 ≤ c0 ∧ c0 < 8
  rotate_left
  · skip
    have hx := decode8_leaf (.slice ro mb rc) (R.take mb) b56 (HY58.out.2.1.cutB mb HMB.out.1) HAT.out (by rw [HMB.out.2]; exact hm) c0 hc0 h8
    refine Calls.mono hx ?_
    clear hx
    rintro e' y75 ⟨rfl, hb⟩
    have HY76 := Lib.hid (show Below w.heap.size w y75 ∧ Sl y75 (.slice ro N rc) (ofK .u8 R) ∧ Sl y75 (.slice eo 2241 ec) (ofK .u8 (bytesM n X Y)) from ⟨below_thn HY58.out.1 hb (Nat.le_refl _), HY58.out.2.1.below hb (Nat.le_refl _), HY58.out.2.2.below hb (Nat.le_refl _)⟩)
    clear hb
    go_wp2_with (first
    | ((with_reducible refine wpList_alloc_blk y75 rfl 90 rfl (sgC 0 (.slice none 0 0) (.slice none 0 0)) Try.zeroSg ?_); intro b77 hb hbel hsz; have HB79 := Lib.hid (And.intro hb hbel); clear hb hbel hsz)
    | ((with_reducible refine wpList_store_blk b77 rfl 90 (.tmp 14) (.tmp 63) rfl y75.heap.size 90 (sgC 0 (.slice none 0 0) (.slice none 0 0)) (sgC 0 (.slice none 0 0) (.slice none 0 0)) HB79.out.1 rfl rfl rfl (sgC_info _ _ _) (sgC_one _ _ _ _ _ _ _) ?_); intro b78 hb hc hs; have hb3 := below_ch HB79.out.2 hc (Nat.le_refl _) (fun k hk => Nat.le_of_eq (Eq.symm hk)); have HY80 := Lib.hid (show Below w.heap.size w b78 ∧ Sl b78 (.slice ro N rc) (ofK .u8 R) ∧ Sl b78 (.slice eo 2241 ec) (ofK .u8 (bytesM n X Y)) ∧ Blk b78 y75.heap.size 90 (sgC 0 (.slice none 0 0) (.slice none 0 0)) from ⟨below_thn HY76.out.1 hb3 (Nat.le_refl _), HY76.out.2.1.below hb3 (Nat.le_refl _), HY76.out.2.2.below hb3 (Nat.le_refl _), hb⟩); clear hb hc hs hb3 HB79)
    | (with_reducible refine wpList_load_any rfl 90 (.tmp 14) rfl y75.heap.size 0 rfl (sgC 0 (.slice none 0 0) (.slice none 0 0)) _ (rangeW_blk HY80.out.2.2.2) Try.underlying90 rfl (sgC_info _ _ _) ?_)
    | ((with_reducible refine wpList_build_zeroSg rfl rfl ?_)))
    have hx := same8_any 0 0 none none none none 0 0 0 0 0 0 0 0 [] [] [] [] b78 (SlD.nil _) (SlD.nil _) (SlD.nil _) (SlD.nil _) (fun _ h => nomatch h) (fun _ h => nomatch h) (fun _ h => nomatch h) (fun _ h => nomatch h)
    rw [show (decide ((0 : Int) = 0) && decide (([] : List (List Int)) = []) && decide (([] : List (List Int)) = [])) = true from rfl] at hx
    refine Calls.mono hx ?_
    clear hx
    rintro e' y81 ⟨rfl, hb⟩
    have HY82 := Lib.hid (show Below w.heap.size w y81 ∧ Sl y81 (.slice ro N rc) (ofK .u8 R) ∧ Sl y81 (.slice eo 2241 ec) (ofK .u8 (bytesM n X Y)) ∧ Blk y81 y75.heap.size 90 (sgC 0 (.slice none 0 0) (.slice none 0 0)) from ⟨below_thn HY80.out.1 hb (Nat.le_refl _), HY80.out.2.1.below hb (Nat.le_refl _), HY80.out.2.2.1.below hb (Nat.le_refl _), HY80.out.2.2.2.below hb HY80.out.2.2.2.lt⟩)
    clear hb
    go_wp2_with fail
    go_ret
    exact ⟨rfl, HY82.out.1⟩
  have hx := decode8_ok (.slice ro mb rc) (R.take mb) b56 (HY58.out.2.1.cutB mb HMB.out.1) HAT.out (by rw [HMB.out.2]; exact hm) c0 hc0 h8.1 h8.2
  have HBK := Lib.hid (bytes_back (by rw [HMB.out.2]; exact hm) hc0 h8.1 h8.2)
  have HCD := Lib.hid (show ∀ i, i < 70 → IsD (chunkF (R.take mb) i) from fun i hi => chunk_D HAT.out (by rw [HMB.out.2]; exact hm) hi)
  have H8 := Lib.hid h8
  clear hc0 h8 hm
  refine Calls.mono hx ?_
  clear hx
  rintro e' y83 ⟨so2, sc2, po2, pc2, rfl, hs1, hs2, hb⟩
  have HY84 := Lib.hid (show Below w.heap.size w y83 ∧ Sl y83 (.slice ro N rc) (ofK .u8 R) ∧ Sl y83 (.slice eo 2241 ec) (ofK .u8 (bytesM n X Y)) ∧ SlD y83 (.slice so2 67 sc2) (rowL (chunkF (R.take mb)) 67) ∧ SlD y83 (.slice po2 3 pc2) ((rowL (chunkF (R.take mb)) 70).drop 67) from ⟨below_thn HY58.out.1 hb (Nat.le_refl _), HY58.out.2.1.below hb (Nat.le_refl _), HY58.out.2.2.below hb (Nat.le_refl _), hs1, hs2⟩)
  clear hs1 hs2 hb
  go_wp2_with (first
    | ((with_reducible refine wpList_alloc_blk y83 rfl 90 rfl (sgC 0 (.slice none 0 0) (.slice none 0 0)) Try.zeroSg ?_); intro b85 hb hbel hsz; have HB87 := Lib.hid (And.intro hb hbel); clear hb hbel hsz)
    | ((with_reducible refine wpList_store_blk b85 rfl 90 (.tmp 14) (.tmp 63) rfl y83.heap.size 90 (sgC 0 (.slice none 0 0) (.slice none 0 0)) (sgC c0 (.slice so2 67 sc2) (.slice po2 3 pc2)) HB87.out.1 rfl rfl rfl (sgC_info _ _ _) (sgC_one _ _ _ _ _ _ _) ?_); intro b86 hb hc hs; have hb3 := below_ch HB87.out.2 hc (Nat.le_refl _) (fun k hk => Nat.le_of_eq (Eq.symm hk)); have HY88 := Lib.hid (show Below w.heap.size w b86 ∧ Sl b86 (.slice ro N rc) (ofK .u8 R) ∧ Sl b86 (.slice eo 2241 ec) (ofK .u8 (bytesM n X Y)) ∧ SlD b86 (.slice so2 67 sc2) (rowL (chunkF (R.take mb)) 67) ∧ SlD b86 (.slice po2 3 pc2) ((rowL (chunkF (R.take mb)) 70).drop 67) ∧ Blk b86 y83.heap.size 90 (sgC c0 (.slice so2 67 sc2) (.slice po2 3 pc2)) from ⟨below_thn HY84.out.1 hb3 (Nat.le_refl _), HY84.out.2.1.below hb3 (Nat.le_refl _), HY84.out.2.2.1.below hb3 (Nat.le_refl _), HY84.out.2.2.2.1.below hb3, HY84.out.2.2.2.2.below hb3, hb⟩); clear hb hc hs hb3 HB87)
    | (with_reducible refine wpList_load_any rfl 90 (.tmp 14) rfl y83.heap.size 0 rfl (sgC c0 (.slice so2 67 sc2) (.slice po2 3 pc2)) _ (rangeW_blk HY88.out.2.2.2.2.2) Try.underlying90 rfl (sgC_info _ _ _) ?_))
  have HD1 := Lib.hid (show (∀ x ∈ rowL (chunkF (R.take mb)) 67, IsD x) ∧ (∀ x ∈ (rowL (chunkF (R.take mb)) 70).drop 67, IsD x) from ⟨rowL_D (fun i hi => HCD.out i (by omega)), fun x hx => rowL_D HCD.out x (List.mem_of_mem_drop hx)⟩)
  have hx := encode8_ok c0 so2 po2 67 sc2 3 pc2 _ _ b86 HY88.out.2.2.2.1 HY88.out.2.2.2.2.1 HD1.out.1 HD1.out.2 H8.out.1 H8.out.2 rfl rfl
  rw [HBK.out] at hx
  refine Calls.mono hx ?_
  clear hx
  rintro e' y89 ⟨ve, rfl, hown, hb⟩
  have hsl := Sl.of_owns hown
  obtain ⟨fo, fc, rfl⟩ := own_shape hown
  generalize (R.take mb).length = fl at hown hsl
  have HY90 := Lib.hid (show Below w.heap.size w y89 ∧ Sl y89 (.slice ro N rc) (ofK .u8 R) ∧ Sl y89 (.slice eo 2241 ec) (ofK .u8 (bytesM n X Y)) ∧ SlD y89 (.slice so2 67 sc2) (rowL (chunkF (R.take mb)) 67) ∧ SlD y89 (.slice po2 3 pc2) ((rowL (chunkF (R.take mb)) 70).drop 67) ∧ Blk y89 y83.heap.size 90 (sgC c0 (.slice so2 67 sc2) (.slice po2 3 pc2)) ∧ Sl y89 (.slice fo fl fc) (ofK .u8 (R.take mb)) from ⟨below_thn HY88.out.1 hb (Nat.le_refl _), HY88.out.2.1.below hb (Nat.le_refl _), HY88.out.2.2.1.below hb (Nat.le_refl _), HY88.out.2.2.2.1.below hb, HY88.out.2.2.2.2.1.below hb, HY88.out.2.2.2.2.2.below hb HY88.out.2.2.2.2.2.lt, hsl⟩)
  clear hown hsl hb
  go_wp2_with fail
  refine (bytesEqual_of _ _ (R.take mb) (R.take mb) y89 true HY90.out.2.2.2.2.2.2 (HY90.out.2.1.cutB mb HMB.out.1) HAT.out HAT.out (decide_eq_true rfl)).mono ?_
  rintro e' w9 ⟨rfl, rfl⟩
  go_wp2_with fail
  go_ret
  exact ⟨rfl, HY90.out.1⟩


end Go.Proofs.Ytkbhehnpgnilmaa
