/-
  Layer 5: term.Hash, Seal, Sign, walked. Conditions: none.
-/
import Derived.Test.YtfenikoajadiaaaTmLc
namespace Go.Proofs.Ytfenikoajadiaaa
open Go Go.RowKit
set_option linter.unusedSimpArgs false
set_option linter.unusedVariables false


def OneP (w : World) (k u n : Int) (ca : List Value) (e : Ending) (w' : World) : Prop := ∃ b, e = .returned (.agg (tmC k u n ⟨#[]⟩ (.slice (some ⟨b, 0, none⟩) 1 1)).toArray) ∧ Blk w' b 24 ca ∧ w.heap.size ≤ b ∧ Below w.heap.size w w'
theorem OneP.tm {F : Nat → Prop} {w' : World} {b : Nat} {k u n : Int} {ca : List Value} {t : Tm} (hb : Blk w' b 24 ca) (hF : F b) (ht : TmC F w' ca t) : TmC F w' (tmC k u n ⟨#[]⟩ (.slice (some ⟨b, 0, none⟩) 1 1)) (.mk k u n ⟨#[]⟩ [t]) :=
  TmC_iff.2 ⟨_, rfl, SlT.of_one hb hF ht⟩
theorem Try.infoI1' : (Try.prog.info? 3).map (·.size) = some 1 := by kernel_rfl


set_option maxRecDepth 100000 in
set_option maxHeartbeats 2000000 in
theorem hash_any (k1 u1 n1 : Int) (s1 : ByteArray) (a1 : Option Addr) (m1 c1 : Nat) (w : World) :
    Calls Try.prog 34 #[.agg (tmC k1 u1 n1 s1 (.slice a1 m1 c1)).toArray] w (OneP w 5 0 0 (tmC k1 u1 n1 s1 (.slice a1 m1 c1))) := by
  have H0 := Lib.hid (Below.refl w.heap.size w)
  go_enter Try.func34, Try.ntmps34
  go_wp2_with (first
    | ((with_reducible refine wpList_box_blk w rfl 24 (.tmp 0) rfl (tmC k1 u1 n1 s1 (.slice a1 m1 c1)) rfl ?_); intro d1 hb hbel hsz; have HD1 := Lib.hid (show Below w.heap.size w d1 ∧ Blk d1 w.heap.size 24 (tmC k1 u1 n1 s1 (.slice a1 m1 c1)) from ⟨below_thn H0.out hbel (Nat.le_refl _), hb⟩); clear hb hbel hsz)
    | ((with_reducible refine wpList_alloc_blk d1 rfl 24 rfl (tmC 0 0 0 ⟨#[]⟩ (.slice none 0 0)) Try.zeroTm ?_); intro d2 hb hbel hsz; have HD2 := Lib.hid (show Below w.heap.size w d2 ∧ Blk d2 w.heap.size 24 (tmC k1 u1 n1 s1 (.slice a1 m1 c1)) ∧ Blk d2 d1.heap.size 24 (tmC 0 0 0 ⟨#[]⟩ (.slice none 0 0)) from ⟨below_thn HD1.out.1 hbel (Nat.le_refl _), HD1.out.2.below hbel HD1.out.2.lt, hb⟩); clear hb hbel hsz)
    | (with_reducible refine wpList_load_any rfl 24 (.tmp 1) rfl w.heap.size 0 rfl (tmC k1 u1 n1 s1 (.slice a1 m1 c1)) _ (rangeW_blk HD2.out.2.1) Try.underlying24 rfl (tmC_info _ _ _ _ _) ?_)
    | ((with_reducible refine wpList_slice_t1 d2 rfl (.tmp 3) rfl (tmC k1 u1 n1 s1 (.slice a1 m1 c1)) rfl rfl ?_); intro d3 hb hbel hsz; have HD3 := Lib.hid (show Below w.heap.size w d3 ∧ Blk d3 d1.heap.size 24 (tmC 0 0 0 ⟨#[]⟩ (.slice none 0 0)) ∧ Blk d3 d2.heap.size 24 (tmC k1 u1 n1 s1 (.slice a1 m1 c1)) from ⟨below_thn HD2.out.1 hbel (Nat.le_refl _), HD2.out.2.2.below hbel HD2.out.2.2.lt, hb⟩); clear hb hbel hsz))
  refine (of_any 5 (some ⟨d2.heap.size, 0, none⟩) 1 1 d3).mono ?_
  rintro e' d4 ⟨rfl, hb⟩
  have HD4 := Lib.hid (show Below w.heap.size w d4 ∧ Blk d4 d1.heap.size 24 (tmC 0 0 0 ⟨#[]⟩ (.slice none 0 0)) ∧ Blk d4 d2.heap.size 24 (tmC k1 u1 n1 s1 (.slice a1 m1 c1)) from ⟨below_thn HD3.out.1 hb (Nat.le_refl _), HD3.out.2.1.below hb HD3.out.2.1.lt, HD3.out.2.2.below hb HD3.out.2.2.lt⟩)
  have HG := Lib.hid (show w.heap.size ≤ d1.heap.size ∧ d1.heap.size < d2.heap.size ∧ d2.heap.size < d4.heap.size from ⟨HD1.out.1.size, HD2.out.2.2.lt, by have := HD3.out.2.2.lt; have := hb.size; omega⟩)
  clear hb
  go_wp2_with (first
    | ((with_reducible refine wpList_store_blk d4 rfl 24 (.tmp 2) (.tmp 5) rfl d1.heap.size 24 (tmC 0 0 0 ⟨#[]⟩ (.slice none 0 0)) (tmC 5 0 0 ⟨#[]⟩ (.slice (some ⟨d2.heap.size, 0, none⟩) 1 1)) HD4.out.2.1 rfl rfl rfl (tmC_info _ _ _ _ _) (tmC_one _ _ _ _ _ _ _) ?_); intro d9 hb hc hs; have HD9 := Lib.hid (show Below w.heap.size w d9 ∧ Blk d9 d1.heap.size 24 (tmC 5 0 0 ⟨#[]⟩ (.slice (some ⟨d2.heap.size, 0, none⟩) 1 1)) ∧ Blk d9 d2.heap.size 24 (tmC k1 u1 n1 s1 (.slice a1 m1 c1)) from ⟨below_ch HD4.out.1 hc (Nat.le_refl _) (fun k hk => by have e : k = d1.heap.size := hk; have := HG.out; omega), hb, HD4.out.2.2.keep hc (fun e => by have e : d2.heap.size = d1.heap.size := e; have := HG.out; omega)⟩); clear hb hc hs))
  refine bodyPost_ret (results_blk Try.results34 _ _ d1.heap.size _ _ rfl HD9.out.2.1 _ Try.underlying24 rfl (tmC_info _ _ _ _ _)) rfl ?_
  exact ⟨_, rfl, HD9.out.2.2, by have := HG.out; omega, HD9.out.1⟩


set_option maxRecDepth 100000 in
set_option maxHeartbeats 2000000 in
theorem seal_any (pu : Int) (k1 u1 n1 : Int) (s1 : ByteArray) (a1 : Option Addr) (m1 c1 : Nat) (w : World) :
    Calls Try.prog 35 #[.int .i64 pu, .agg (tmC k1 u1 n1 s1 (.slice a1 m1 c1)).toArray] w (OneP w 7 pu 0 (tmC k1 u1 n1 s1 (.slice a1 m1 c1))) := by
  have H0 := Lib.hid (Below.refl w.heap.size w)
  go_enter Try.func35, Try.ntmps35
  go_wp2_with (first
    | ((with_reducible refine wpList_box_blk w rfl 24 (.tmp 1) rfl (tmC k1 u1 n1 s1 (.slice a1 m1 c1)) rfl ?_); intro d1 hb hbel hsz; have HD1 := Lib.hid (show Below w.heap.size w d1 ∧ Blk d1 w.heap.size 24 (tmC k1 u1 n1 s1 (.slice a1 m1 c1)) from ⟨below_thn H0.out hbel (Nat.le_refl _), hb⟩); clear hb hbel hsz)
    | ((with_reducible refine wpList_alloc_blk d1 rfl 24 rfl (tmC 0 0 0 ⟨#[]⟩ (.slice none 0 0)) Try.zeroTm ?_); intro d2 hb hbel hsz; have HD2 := Lib.hid (show Below w.heap.size w d2 ∧ Blk d2 w.heap.size 24 (tmC k1 u1 n1 s1 (.slice a1 m1 c1)) ∧ Blk d2 d1.heap.size 24 (tmC 0 0 0 ⟨#[]⟩ (.slice none 0 0)) from ⟨below_thn HD1.out.1 hbel (Nat.le_refl _), HD1.out.2.below hbel HD1.out.2.lt, hb⟩); clear hb hbel hsz)
    | (with_reducible refine wpList_load_any rfl 24 (.tmp 3) rfl w.heap.size 0 rfl (tmC k1 u1 n1 s1 (.slice a1 m1 c1)) _ (rangeW_blk HD2.out.2.1) Try.underlying24 rfl (tmC_info _ _ _ _ _) ?_)
    | ((with_reducible refine wpList_slice_t1 d2 rfl (.tmp 6) rfl (tmC k1 u1 n1 s1 (.slice a1 m1 c1)) rfl rfl ?_); intro d3 hb hbel hsz; have HD3 := Lib.hid (show Below w.heap.size w d3 ∧ Blk d3 d1.heap.size 24 (tmC 0 0 0 ⟨#[]⟩ (.slice none 0 0)) ∧ Blk d3 d2.heap.size 24 (tmC k1 u1 n1 s1 (.slice a1 m1 c1)) from ⟨below_thn HD2.out.1 hbel (Nat.le_refl _), HD2.out.2.2.below hbel HD2.out.2.2.lt, hb⟩); clear hb hbel hsz))
  refine (of_any 7 (some ⟨d2.heap.size, 0, none⟩) 1 1 d3).mono ?_
  rintro e' d4 ⟨rfl, hb⟩
  have HD4 := Lib.hid (show Below w.heap.size w d4 ∧ Blk d4 d1.heap.size 24 (tmC 0 0 0 ⟨#[]⟩ (.slice none 0 0)) ∧ Blk d4 d2.heap.size 24 (tmC k1 u1 n1 s1 (.slice a1 m1 c1)) from ⟨below_thn HD3.out.1 hb (Nat.le_refl _), HD3.out.2.1.below hb HD3.out.2.1.lt, HD3.out.2.2.below hb HD3.out.2.2.lt⟩)
  have HG := Lib.hid (show w.heap.size ≤ d1.heap.size ∧ d1.heap.size < d2.heap.size ∧ d2.heap.size < d4.heap.size from ⟨HD1.out.1.size, HD2.out.2.2.lt, by have := HD3.out.2.2.lt; have := hb.size; omega⟩)
  clear hb
  go_wp2_with (first
    | ((with_reducible refine wpList_alloc_blk d4 rfl 24 rfl (tmC 0 0 0 ⟨#[]⟩ (.slice none 0 0)) Try.zeroTm ?_); intro d5 hb hbel hsz; have HD5 := Lib.hid (show Below w.heap.size w d5 ∧ Blk d5 d1.heap.size 24 (tmC 0 0 0 ⟨#[]⟩ (.slice none 0 0)) ∧ Blk d5 d2.heap.size 24 (tmC k1 u1 n1 s1 (.slice a1 m1 c1)) ∧ Blk d5 d4.heap.size 24 (tmC 0 0 0 ⟨#[]⟩ (.slice none 0 0)) from ⟨below_thn HD4.out.1 hbel (Nat.le_refl _), HD4.out.2.1.below hbel HD4.out.2.1.lt, HD4.out.2.2.below hbel HD4.out.2.2.lt, hb⟩); clear hb hbel hsz)
    | ((with_reducible refine wpList_store_blk d5 rfl 24 (.tmp 5) (.tmp 8) rfl d4.heap.size 24 (tmC 0 0 0 ⟨#[]⟩ (.slice none 0 0)) (tmC 7 0 0 ⟨#[]⟩ (.slice (some ⟨d2.heap.size, 0, none⟩) 1 1)) HD5.out.2.2.2 rfl rfl rfl (tmC_info _ _ _ _ _) (tmC_one _ _ _ _ _ _ _) ?_); intro d6 hb hc hs; have HD6 := Lib.hid (show Below w.heap.size w d6 ∧ Blk d6 d1.heap.size 24 (tmC 0 0 0 ⟨#[]⟩ (.slice none 0 0)) ∧ Blk d6 d2.heap.size 24 (tmC k1 u1 n1 s1 (.slice a1 m1 c1)) ∧ Blk d6 d4.heap.size 24 (tmC 7 0 0 ⟨#[]⟩ (.slice (some ⟨d2.heap.size, 0, none⟩) 1 1)) from ⟨below_ch HD5.out.1 hc (Nat.le_refl _) (fun k hk => by have e : k = d4.heap.size := hk; have := HG.out; omega), HD5.out.2.1.keep hc (fun e => by have e : d1.heap.size = d4.heap.size := e; have := HG.out; omega), HD5.out.2.2.1.keep hc (fun e => by have e : d2.heap.size = d4.heap.size := e; have := HG.out; omega), hb⟩); clear hb hc hs)
    | ((with_reducible refine wpList_store1 d6 rfl 3 (.tmp 10) (.tmp 9) rfl d4.heap.size 1 24 (tmC 7 0 0 ⟨#[]⟩ (.slice (some ⟨d2.heap.size, 0, none⟩) 1 1)) HD6.out.2.2.2 rfl (.int .i64 pu) rfl (by simp [tmC]) Try.infoI1' rfl rfl ?_); intro d7 hb hc hs; have HD7 := Lib.hid (show Below w.heap.size w d7 ∧ Blk d7 d1.heap.size 24 (tmC 0 0 0 ⟨#[]⟩ (.slice none 0 0)) ∧ Blk d7 d2.heap.size 24 (tmC k1 u1 n1 s1 (.slice a1 m1 c1)) ∧ Blk d7 d4.heap.size 24 (tmC 7 pu 0 ⟨#[]⟩ (.slice (some ⟨d2.heap.size, 0, none⟩) 1 1)) from ⟨below_ch HD6.out.1 hc (Nat.le_refl _) (fun k hk => by have e : k = d4.heap.size := hk; have := HG.out; omega), HD6.out.2.1.keep hc (fun e => by have e : d1.heap.size = d4.heap.size := e; have := HG.out; omega), HD6.out.2.2.1.keep hc (fun e => by have e : d2.heap.size = d4.heap.size := e; have := HG.out; omega), hb⟩); clear hb hc hs)
    | (with_reducible refine wpList_load_any rfl 24 (.tmp 5) rfl d4.heap.size 0 rfl (tmC 7 pu 0 ⟨#[]⟩ (.slice (some ⟨d2.heap.size, 0, none⟩) 1 1)) _ (rangeW_blk HD7.out.2.2.2) Try.underlying24 rfl (tmC_info _ _ _ _ _) ?_)
    | ((with_reducible refine wpList_store_blk d7 rfl 24 (.tmp 4) (.tmp 11) rfl d1.heap.size 24 (tmC 0 0 0 ⟨#[]⟩ (.slice none 0 0)) (tmC 7 pu 0 ⟨#[]⟩ (.slice (some ⟨d2.heap.size, 0, none⟩) 1 1)) HD7.out.2.1 rfl rfl rfl (tmC_info _ _ _ _ _) (tmC_one _ _ _ _ _ _ _) ?_); intro d9 hb hc hs; have HD9 := Lib.hid (show Below w.heap.size w d9 ∧ Blk d9 d1.heap.size 24 (tmC 7 pu 0 ⟨#[]⟩ (.slice (some ⟨d2.heap.size, 0, none⟩) 1 1)) ∧ Blk d9 d2.heap.size 24 (tmC k1 u1 n1 s1 (.slice a1 m1 c1)) ∧ Blk d9 d4.heap.size 24 (tmC 7 pu 0 ⟨#[]⟩ (.slice (some ⟨d2.heap.size, 0, none⟩) 1 1)) from ⟨below_ch HD7.out.1 hc (Nat.le_refl _) (fun k hk => by have e : k = d1.heap.size := hk; have := HG.out; omega), hb, HD7.out.2.2.1.keep hc (fun e => by have e : d2.heap.size = d1.heap.size := e; have := HG.out; omega), HD7.out.2.2.2.keep hc (fun e => by have e : d4.heap.size = d1.heap.size := e; have := HG.out; omega)⟩); clear hb hc hs))
  refine bodyPost_ret (results_blk Try.results35 _ _ d1.heap.size _ _ rfl HD9.out.2.1 _ Try.underlying24 rfl (tmC_info _ _ _ _ _)) rfl ?_
  exact ⟨_, rfl, HD9.out.2.2.1, by have := HG.out; omega, HD9.out.1⟩


set_option maxRecDepth 100000 in
set_option maxHeartbeats 2000000 in
theorem sign5_any (pu pn : Int) (k1 u1 n1 : Int) (s1 : ByteArray) (a1 : Option Addr) (m1 c1 : Nat) (w : World) :
    Calls Try.prog 36 #[.int .i64 pu, .int .i64 pn, .agg (tmC k1 u1 n1 s1 (.slice a1 m1 c1)).toArray] w (OneP w 8 pu pn (tmC k1 u1 n1 s1 (.slice a1 m1 c1))) := by
  have H0 := Lib.hid (Below.refl w.heap.size w)
  go_enter Try.func36, Try.ntmps36
  go_wp2_with (first
    | ((with_reducible refine wpList_box_blk w rfl 24 (.tmp 2) rfl (tmC k1 u1 n1 s1 (.slice a1 m1 c1)) rfl ?_); intro d1 hb hbel hsz; have HD1 := Lib.hid (show Below w.heap.size w d1 ∧ Blk d1 w.heap.size 24 (tmC k1 u1 n1 s1 (.slice a1 m1 c1)) from ⟨below_thn H0.out hbel (Nat.le_refl _), hb⟩); clear hb hbel hsz)
    | ((with_reducible refine wpList_alloc_blk d1 rfl 24 rfl (tmC 0 0 0 ⟨#[]⟩ (.slice none 0 0)) Try.zeroTm ?_); intro d2 hb hbel hsz; have HD2 := Lib.hid (show Below w.heap.size w d2 ∧ Blk d2 w.heap.size 24 (tmC k1 u1 n1 s1 (.slice a1 m1 c1)) ∧ Blk d2 d1.heap.size 24 (tmC 0 0 0 ⟨#[]⟩ (.slice none 0 0)) from ⟨below_thn HD1.out.1 hbel (Nat.le_refl _), HD1.out.2.below hbel HD1.out.2.lt, hb⟩); clear hb hbel hsz)
    | (with_reducible refine wpList_load_any rfl 24 (.tmp 5) rfl w.heap.size 0 rfl (tmC k1 u1 n1 s1 (.slice a1 m1 c1)) _ (rangeW_blk HD2.out.2.1) Try.underlying24 rfl (tmC_info _ _ _ _ _) ?_)
    | ((with_reducible refine wpList_slice_t1 d2 rfl (.tmp 8) rfl (tmC k1 u1 n1 s1 (.slice a1 m1 c1)) rfl rfl ?_); intro d3 hb hbel hsz; have HD3 := Lib.hid (show Below w.heap.size w d3 ∧ Blk d3 d1.heap.size 24 (tmC 0 0 0 ⟨#[]⟩ (.slice none 0 0)) ∧ Blk d3 d2.heap.size 24 (tmC k1 u1 n1 s1 (.slice a1 m1 c1)) from ⟨below_thn HD2.out.1 hbel (Nat.le_refl _), HD2.out.2.2.below hbel HD2.out.2.2.lt, hb⟩); clear hb hbel hsz))
  refine (of_any 8 (some ⟨d2.heap.size, 0, none⟩) 1 1 d3).mono ?_
  rintro e' d4 ⟨rfl, hb⟩
  have HD4 := Lib.hid (show Below w.heap.size w d4 ∧ Blk d4 d1.heap.size 24 (tmC 0 0 0 ⟨#[]⟩ (.slice none 0 0)) ∧ Blk d4 d2.heap.size 24 (tmC k1 u1 n1 s1 (.slice a1 m1 c1)) from ⟨below_thn HD3.out.1 hb (Nat.le_refl _), HD3.out.2.1.below hb HD3.out.2.1.lt, HD3.out.2.2.below hb HD3.out.2.2.lt⟩)
  have HG := Lib.hid (show w.heap.size ≤ d1.heap.size ∧ d1.heap.size < d2.heap.size ∧ d2.heap.size < d4.heap.size from ⟨HD1.out.1.size, HD2.out.2.2.lt, by have := HD3.out.2.2.lt; have := hb.size; omega⟩)
  clear hb
  go_wp2_with (first
    | ((with_reducible refine wpList_alloc_blk d4 rfl 24 rfl (tmC 0 0 0 ⟨#[]⟩ (.slice none 0 0)) Try.zeroTm ?_); intro d5 hb hbel hsz; have HD5 := Lib.hid (show Below w.heap.size w d5 ∧ Blk d5 d1.heap.size 24 (tmC 0 0 0 ⟨#[]⟩ (.slice none 0 0)) ∧ Blk d5 d2.heap.size 24 (tmC k1 u1 n1 s1 (.slice a1 m1 c1)) ∧ Blk d5 d4.heap.size 24 (tmC 0 0 0 ⟨#[]⟩ (.slice none 0 0)) from ⟨below_thn HD4.out.1 hbel (Nat.le_refl _), HD4.out.2.1.below hbel HD4.out.2.1.lt, HD4.out.2.2.below hbel HD4.out.2.2.lt, hb⟩); clear hb hbel hsz)
    | ((with_reducible refine wpList_store_blk d5 rfl 24 (.tmp 7) (.tmp 10) rfl d4.heap.size 24 (tmC 0 0 0 ⟨#[]⟩ (.slice none 0 0)) (tmC 8 0 0 ⟨#[]⟩ (.slice (some ⟨d2.heap.size, 0, none⟩) 1 1)) HD5.out.2.2.2 rfl rfl rfl (tmC_info _ _ _ _ _) (tmC_one _ _ _ _ _ _ _) ?_); intro d6 hb hc hs; have HD6 := Lib.hid (show Below w.heap.size w d6 ∧ Blk d6 d1.heap.size 24 (tmC 0 0 0 ⟨#[]⟩ (.slice none 0 0)) ∧ Blk d6 d2.heap.size 24 (tmC k1 u1 n1 s1 (.slice a1 m1 c1)) ∧ Blk d6 d4.heap.size 24 (tmC 8 0 0 ⟨#[]⟩ (.slice (some ⟨d2.heap.size, 0, none⟩) 1 1)) from ⟨below_ch HD5.out.1 hc (Nat.le_refl _) (fun k hk => by have e : k = d4.heap.size := hk; have := HG.out; omega), HD5.out.2.1.keep hc (fun e => by have e : d1.heap.size = d4.heap.size := e; have := HG.out; omega), HD5.out.2.2.1.keep hc (fun e => by have e : d2.heap.size = d4.heap.size := e; have := HG.out; omega), hb⟩); clear hb hc hs)
    | ((with_reducible refine wpList_store1 d6 rfl 3 (.tmp 13) (.tmp 11) rfl d4.heap.size 1 24 (tmC 8 0 0 ⟨#[]⟩ (.slice (some ⟨d2.heap.size, 0, none⟩) 1 1)) HD6.out.2.2.2 rfl (.int .i64 pu) rfl (by simp [tmC]) Try.infoI1' rfl rfl ?_); intro d7 hb hc hs; have HD7 := Lib.hid (show Below w.heap.size w d7 ∧ Blk d7 d1.heap.size 24 (tmC 0 0 0 ⟨#[]⟩ (.slice none 0 0)) ∧ Blk d7 d2.heap.size 24 (tmC k1 u1 n1 s1 (.slice a1 m1 c1)) ∧ Blk d7 d4.heap.size 24 (tmC 8 pu 0 ⟨#[]⟩ (.slice (some ⟨d2.heap.size, 0, none⟩) 1 1)) from ⟨below_ch HD6.out.1 hc (Nat.le_refl _) (fun k hk => by have e : k = d4.heap.size := hk; have := HG.out; omega), HD6.out.2.1.keep hc (fun e => by have e : d1.heap.size = d4.heap.size := e; have := HG.out; omega), HD6.out.2.2.1.keep hc (fun e => by have e : d2.heap.size = d4.heap.size := e; have := HG.out; omega), hb⟩); clear hb hc hs)
    | ((with_reducible refine wpList_store1 d7 rfl 3 (.tmp 14) (.tmp 12) rfl d4.heap.size 2 24 (tmC 8 pu 0 ⟨#[]⟩ (.slice (some ⟨d2.heap.size, 0, none⟩) 1 1)) HD7.out.2.2.2 rfl (.int .i64 pn) rfl (by simp [tmC]) Try.infoI1' rfl rfl ?_); intro d8 hb hc hs; have HD8 := Lib.hid (show Below w.heap.size w d8 ∧ Blk d8 d1.heap.size 24 (tmC 0 0 0 ⟨#[]⟩ (.slice none 0 0)) ∧ Blk d8 d2.heap.size 24 (tmC k1 u1 n1 s1 (.slice a1 m1 c1)) ∧ Blk d8 d4.heap.size 24 (tmC 8 pu pn ⟨#[]⟩ (.slice (some ⟨d2.heap.size, 0, none⟩) 1 1)) from ⟨below_ch HD7.out.1 hc (Nat.le_refl _) (fun k hk => by have e : k = d4.heap.size := hk; have := HG.out; omega), HD7.out.2.1.keep hc (fun e => by have e : d1.heap.size = d4.heap.size := e; have := HG.out; omega), HD7.out.2.2.1.keep hc (fun e => by have e : d2.heap.size = d4.heap.size := e; have := HG.out; omega), hb⟩); clear hb hc hs)
    | (with_reducible refine wpList_load_any rfl 24 (.tmp 7) rfl d4.heap.size 0 rfl (tmC 8 pu pn ⟨#[]⟩ (.slice (some ⟨d2.heap.size, 0, none⟩) 1 1)) _ (rangeW_blk HD8.out.2.2.2) Try.underlying24 rfl (tmC_info _ _ _ _ _) ?_)
    | ((with_reducible refine wpList_store_blk d8 rfl 24 (.tmp 6) (.tmp 15) rfl d1.heap.size 24 (tmC 0 0 0 ⟨#[]⟩ (.slice none 0 0)) (tmC 8 pu pn ⟨#[]⟩ (.slice (some ⟨d2.heap.size, 0, none⟩) 1 1)) HD8.out.2.1 rfl rfl rfl (tmC_info _ _ _ _ _) (tmC_one _ _ _ _ _ _ _) ?_); intro d9 hb hc hs; have HD9 := Lib.hid (show Below w.heap.size w d9 ∧ Blk d9 d1.heap.size 24 (tmC 8 pu pn ⟨#[]⟩ (.slice (some ⟨d2.heap.size, 0, none⟩) 1 1)) ∧ Blk d9 d2.heap.size 24 (tmC k1 u1 n1 s1 (.slice a1 m1 c1)) ∧ Blk d9 d4.heap.size 24 (tmC 8 pu pn ⟨#[]⟩ (.slice (some ⟨d2.heap.size, 0, none⟩) 1 1)) from ⟨below_ch HD8.out.1 hc (Nat.le_refl _) (fun k hk => by have e : k = d1.heap.size := hk; have := HG.out; omega), hb, HD8.out.2.2.1.keep hc (fun e => by have e : d2.heap.size = d1.heap.size := e; have := HG.out; omega), HD8.out.2.2.2.keep hc (fun e => by have e : d4.heap.size = d1.heap.size := e; have := HG.out; omega)⟩); clear hb hc hs))
  refine bodyPost_ret (results_blk Try.results36 _ _ d1.heap.size _ _ rfl HD9.out.2.1 _ Try.underlying24 rfl (tmC_info _ _ _ _ _)) rfl ?_
  exact ⟨_, rfl, HD9.out.2.2.1, by have := HG.out; omega, HD9.out.1⟩


end Go.Proofs.Ytfenikoajadiaaa
