/-
  Law 06: key, signed and recovered, walked. Conditions: bytes; a row of 67 digests.
-/
import Derived.Test.YtkbhehnpgnilmaaWtI
namespace Go.Proofs.Ytkbhehnpgnilmaa
open Go Go.RowKit
set_option linter.unusedSimpArgs false

/-- a row of n digests, told place by place -/
def rowL (g : Nat → List Int) (n : Nat) : List (List Int) := (List.range n).map g
theorem rowL_succ (g : Nat → List Int) (n : Nat) : rowL g (n + 1) = rowL g n ++ [g n] := by unfold rowL; rw [List.range_succ, List.map_append]; rfl
theorem rowL_length (g : Nat → List Int) (n : Nat) : (rowL g n).length = n := by simp [rowL]
theorem rowL_D {g : Nat → List Int} {n : Nat} (h : ∀ i < n, IsD (g i)) : ∀ x ∈ rowL g n, IsD x := by
  intro x hx
  obtain ⟨i, hi, rfl⟩ := List.mem_map.1 hx
  exact h i (List.mem_range.1 hi)
/-- a lane's end -/
def endL (seed : List Int) (i : Nat) : List Int := walkB (startB seed i) i 0 15
/-- a lane's place in a signature -/
def sigL (seed m : List Int) (i : Nat) : List Int := walkB (startB seed i) i 0 ((digitsL m).getD i 0).toNat
theorem isD_end {x : List Int} (hx : IsD x) (i : Nat) : IsD (endL x i) := isD_walk (isD_start hx i) _ _ _
theorem isD_sig {x : List Int} (hx : IsD x) (m : List Int) (i : Nat) : IsD (sigL x m i) := isD_walk (isD_start hx i) _ _ _
def keyOf (seed : List Int) : List Int := sumL (digB 75 [] (rowL (endL seed) 67))
def sigOf (seed m : List Int) : List (List Int) := rowL (sigL seed m) 67
def recG (m : List Int) (s : List (List Int)) (i : Nat) : List Int := walkB (s.getD i []) i ((digitsL m).getD i 0) (15 - (digitsL m).getD i 0).toNat
theorem recL_eq (m : List Int) (s : List (List Int)) (n : Nat) : recL m s n = rowL (recG m s) n := rfl

/-- how a round stands: blocks that are known, the row, and all apart -/
structure RowI (w0 : World) (rv : Value) (L : List (List Int)) (wz : World) : Prop where
  row : wz.ownsRow w0.heap.size 23 32 rv L.length (ofK .u8 L.flatten)
  bel : Below w0.heap.size w0 wz
theorem RowI.below {w0 wz w' : World} {rv : Value} {L : List (List Int)} (h : RowI w0 rv L wz) (hb : Below wz.heap.size wz w') : RowI w0 rv L w' :=
  ⟨own_ch h.row (Ch.of_below (S := fun _ => False) hb (Nat.le_refl _)) (fun _ _ h => h), below_thn h.bel hb (Nat.le_refl _)⟩
theorem RowI.nil (w0 : World) : RowI w0 (.slice none 0 0) [] w0 := ⟨World.ownsRow_nil _ _ _ _, Below.refl _ _⟩
theorem RowI.appended {w0 wz w' : World} {rv rv2 : Value} {L : List (List Int)} {x : List Int} (h : RowI w0 rv L wz) (ho : w'.ownsRow w0.heap.size 23 32 rv2 (L.length + 1) (ofK .u8 (L ++ [x]).flatten)) (hg : wz.grownBy w' rv.ownBlock) : RowI w0 rv2 (L ++ [x]) w' :=
  ⟨by simpa using ho, h.bel.grown hg h.bel.size (fun k hk => (h.row.lt k hk).1)⟩

/-- what stands ahead of the loop -/
structure PreI (w : World) (b : Nat) (x : List Int) (r : Nat) (wz : World) : Prop where
  box : Blk wz b 23 (ofK .u8 x)
  res : Blk wz r 23 (ofK .u8 zer32)
  bel : Below w.heap.size w wz
  le : w.heap.size ≤ r
theorem PreI.below {w wz w' : World} {b r : Nat} {x : List Int} (h : PreI w b x r wz) (hb : Below wz.heap.size wz w') : PreI w b x r w' := ⟨h.box.below hb h.box.lt, h.res.below hb h.res.lt, below_thn h.bel hb (Nat.le_refl _), h.le⟩

set_option maxRecDepth 100000 in
set_option maxHeartbeats 4000000 in
theorem lkey_any (seed : List Int) (w : World) (hs : IsD seed) :
    Calls Try.prog 59 #[.agg (ofK .u8 seed).toArray] w (fun e w' => e = .returned (.agg (ofK .u8 (keyOf seed)).toArray) ∧ Below w.heap.size w w') := by
  have HX := Lib.hid hs
  have HI := Lib.hid (infoD hs)
  clear hs
  go_enter Try.func59, Try.ntmps59
  go_wp2_with (first
    | (with_reducible refine wpList_box_blk w rfl 23 (.tmp 0) rfl (ofK .u8 seed) rfl ?_; intro w1 hb hbel hsz; have HB1 := Lib.hid (And.intro hb (And.intro hbel hsz)); clear hb hbel hsz)
    | ((with_reducible refine wpList_alloc_blk w1 rfl 23 rfl (ofK .u8 zer32) Try.zeroId ?_); intro w4 hb hbel hsz; have HB4 := Lib.hid (PreI.mk (w := w) (HB1.out.1.below hbel HB1.out.1.lt) hb (below_thn HB1.out.2.1 hbel (Nat.le_refl _)) (by have := HB1.out.2.2; omega)); clear hb hbel hsz))
  go_loopw [3, 4, 5] (fun rv _ i wr => ∃ k : Nat, k ≤ 67 ∧ i = .int .i64 k ∧ ∃ ao cp, rv = .slice ao k cp ∧ Hid (RowI w4 (.slice ao k cp) (rowL (endL seed) k) wr)) (fun _ _ i _ => 67 - (intOf i).toNat)
  case atStart => exact ⟨0, by omega, rfl, none, 0, rfl, Lib.hid (RowI.nil w4)⟩
  case round =>
    obtain ⟨k, hk, rfl, ao, cp, rfl, HR⟩ := hrel
    by_cases hlt : k < 67
    · have hk32 : (k : Int) < 67 := by omega
      have hk0 : (0 : Int) ≤ (k : Int) := by omega
      have HRX := Lib.hid (rangeW_blk (HB4.out.box.below HR.out.bel HB4.out.box.lt))
      obtain ⟨y, hy⟩ : ∃ y, walkB (startB seed k) k 0 15 = y := ⟨_, rfl⟩
      have hyD : IsD y := by rw [← hy]; exact isD_walk (isD_start HX.out k) _ _ _
      have hgk : endL seed k = y := hy
      have HYD := Lib.hid hyD
      have HY32 := Lib.hid (show (ofK .u8 y).length = 32 by rw [length_ofK, hyD.1])
      have HGK := Lib.hid hgk
      clear hyD hgk
      go_wp2_with (with_reducible refine wpList_load_any rfl 23 (.tmp 1) rfl w.heap.size 0 rfl (ofK .u8 seed) _ HRX.out Try.underlying23 rfl HI.out ?_)
      refine (lstart_any seed k wr HX.out hk0 (by omega)).mono ?_
      rintro e w5 ⟨rfl, hb5⟩
      have H5 := Lib.hid (HR.out.below hb5)
      clear hb5
      go_wp2_with fail
      refine (lwalk_any (startB seed k) k 0 15 w5 (isD_start HX.out k) hk0 hk32 (by omega) (by omega) (by omega)).mono ?_
      rintro e w8 ⟨rfl, hb8⟩
      have H8 := Lib.hid (H5.out.below hb8)
      clear hb8
      rw [show ((15 : Int) - 0).toNat = 15 from rfl, hy]
      clear hy HR H5
      go_wp2_with (first
        | ((with_reducible refine wpList_slice_one w8 rfl 54 (.tmp 13) rfl Try.underlying54 Try.sizeId Try.zeroId Try.id1 Try.id2 (ofK .u8 y) HY32.out rfl ?_); intro w9 hb hbel hsz; have H9 := Lib.hid (And.intro hb (H8.out.below hbel)); clear hb hbel hsz)
        | (at_builtin; refine wpList_append_id w9 rfl (.tmp 8) (.tmp 14) rfl w4.heap.size (.slice ao k cp) k (rowL (endL seed) k) rfl (by have := H9.out.2.row; rwa [rowL_length] at this) w8.heap.size y rfl H9.out.1 HYD.out (by omega) H9.out.2.bel.size ?_))
      intro ao2 cp2 u11 hown hgr _
      have HE := Lib.hid (show RowI w4 (.slice ao2 (k + 1) cp2) (rowL (endL seed) (k + 1)) u11 from by
        rw [rowL_succ, HGK.out]; exact H9.out.2.appended (by rw [rowL_length, List.flatten_append, List.flatten_cons, List.flatten_nil, List.append_nil]; exact hown) hgr)
      clear hown hgr
      go_wp2_with fail
      go_roundw
      case rel => exact ⟨k + 1, by omega, by go_num, ao2, cp2, rfl, HE⟩
      case measure => simp [intOf]; omega
    · obtain rfl : k = 67 := by omega
      have hrD : ∀ x ∈ rowL (endL seed) 67, IsD x := rowL_D (fun i hi => isD_end HX.out i)
      have HRD := Lib.hid hrD
      have HQ := Lib.hid (isD_sum (digB_allB (c := 75) (nums := []) (by omega) hrD))
      have HIQ := Lib.hid (infoD HQ.out)
      have HLQ := Lib.hid (lenD HQ.out isD_zer)
      clear hrD
      go_wp2_with fail
      refine (ends_any _ (rowL (endL seed) 67) wr (SlD.of_owns HR.out.row (rfl) HRD.out |> (fun h => by exact h)) (by rw [rowL_length]; omega) HRD.out).mono ?_
      rintro e w8 ⟨rfl, hb8⟩
      have H8 := Lib.hid (show Blk w8 w1.heap.size 23 (ofK .u8 zer32) ∧ Below w.heap.size w w8 from ⟨(HB4.out.res.below HR.out.bel HB4.out.res.lt).below hb8 (by have := HR.out.bel.size; have := HB4.out.res.lt; omega), below_thn (below_thn HB4.out.bel HR.out.bel (Nat.le_refl _)) hb8 (Nat.le_refl _)⟩)
      clear hb8
      go_wp2_with ((with_reducible refine wpList_store_blk w8 rfl 23 (.tmp 2) (.tmp 18) rfl w1.heap.size 23 (ofK .u8 zer32) (ofK .u8 (sumL (digB 75 [] (rowL (endL seed) 67)))) H8.out.1 rfl rfl HLQ.out HIQ.out (one_ofK _ _) ?_); intro w9 hb hc hs; have H9 := Lib.hid (And.intro hb hc); clear hb hc hs)
      refine bodyPost_ret (results_blk Try.results59 _ _ w1.heap.size _ _ rfl H9.out.1 _ Try.underlying23 rfl HIQ.out) rfl ⟨rfl, ?_⟩
      exact below_ch H8.out.2 H9.out.2 (Nat.le_refl _) (fun k hk => by have : k = w1.heap.size := hk; have := HB4.out.le; omega)

set_option maxRecDepth 100000 in
set_option maxHeartbeats 4000000 in
theorem lrecovered_any (m : List Int) (vs : Value) (s : List (List Int)) (w : World) (hm : IsD m) (hs : SlD w vs s) (hl : s.length = 67) (hD : ∀ x ∈ s, IsD x) :
    Calls Try.prog 63 #[.agg (ofK .u8 m).toArray, vs] w (fun e w' => e = .returned (.agg (ofK .u8 (recB m s)).toArray) ∧ Below w.heap.size w w') := by
  obtain ⟨so, sc, rfl, hlc, hc6, hcell⟩ := hs
  rw [hl] at hlc ⊢
  have HS := Lib.hid (And.intro hcell (And.intro hl hD))
  have HM := Lib.hid hm
  have HI := Lib.hid (infoD hm)
  clear hcell hl hD hm
  go_enter Try.func63, Try.ntmps63
  go_wp2_with (first
    | (with_reducible refine wpList_box_blk w rfl 23 (.tmp 0) rfl (ofK .u8 m) rfl ?_; intro w1 hb hbel hsz; have HB1 := Lib.hid (And.intro hb (And.intro hbel hsz)); clear hb hbel hsz)
    | ((with_reducible refine wpList_alloc_blk w1 rfl 23 rfl (ofK .u8 zer32) Try.zeroId ?_); intro w3 hb hbel hsz; have HB3 := Lib.hid (PreI.mk (w := w) (HB1.out.1.below hbel HB1.out.1.lt) hb (below_thn HB1.out.2.1 hbel (Nat.le_refl _)) (by have := HB1.out.2.2; omega)); have HRM := Lib.hid (rangeW_blk HB3.out.box); clear hb hbel hsz)
    | (with_reducible refine wpList_load_any rfl 23 (.tmp 2) rfl w.heap.size 0 rfl (ofK .u8 m) _ HRM.out Try.underlying23 rfl HI.out ?_))
  refine (rdigits_any m w3 HM.out).mono ?_
  rintro e w4 ⟨dao, dcp, rfl, hown, hb4⟩
  obtain ⟨dao', dcp', hdv, _, _, hdc⟩ := (Sl.of_owns hown).nums
  rw [digitsL_length HM.out] at hdv
  obtain ⟨rfl, rfl⟩ : dao = dao' ∧ dcp = dcp' := by simpa using hdv
  obtain ⟨dg, dgo, rfl, _, hdcell⟩ := hdc (by rw [digitsL_length HM.out]; omega)
  have HDC := Lib.hid hdcell
  have HB4 := Lib.hid (HB3.out.below hb4)
  clear hown hb4 hdv hdc hdcell HRM
  go_wp2_with fail
  go_loopw [5, 6, 7, 11] (fun rv _ _ i wr => ∃ k : Nat, k ≤ 67 ∧ i = .int .i64 k ∧ ∃ ao cp, rv = .slice ao k cp ∧ Hid (RowI w4 (.slice ao k cp) (rowL (recG m s) k) wr)) (fun _ _ _ i _ => 67 - (intOf i).toNat)
  case atStart => exact ⟨0, by omega, rfl, none, 0, rfl, Lib.hid (RowI.nil w4)⟩
  case round =>
    obtain ⟨k, hk, rfl, ao, cp, rfl, HR⟩ := hrel
    by_cases hlt : k < 67
    · have hk32 : (k : Int) < 67 := by omega
      have hk0 : (0 : Int) ≤ (k : Int) := by omega
      have hks : k < s.length := by rw [HS.out.2.1]; exact hlt
      obtain ⟨sg, sgo, rfl, hcl⟩ := HS.out.1 (by rw [HS.out.2.1]; omega)
      have HC := Lib.hid (rangeW_below (hcl k hks) (below_thn HB4.out.bel HR.out.bel (Nat.le_refl _)))
      have hxD := HS.out.2.2 s[k] (List.getElem_mem hks)
      have hxs : s.getD k [] = s[k] := by rw [List.getD_eq_getElem?_getD, List.getElem?_eq_getElem hks]; rfl
      have hkd : k < (digitsL m).length := by rw [digitsL_length HM.out]; exact hlt
      have hdb := digitsL_bd HM.out _ (List.getElem_mem hkd)
      have hds : (digitsL m).getD k 0 = (digitsL m)[k] := by rw [List.getD_eq_getElem?_getD, List.getElem?_eq_getElem hkd]; rfl
      have hdw := (HR.out.bel.cell (p := ⟨dg, dgo + k, none⟩) (block_of_cell (HDC.out k hkd))).trans (HDC.out k hkd)
      have hgk : (recG m s) k = walkB s[k] k (digitsL m)[k] (15 - (digitsL m)[k]).toNat := by show walkB (s.getD k []) k ((digitsL m).getD k 0) (15 - (digitsL m).getD k 0).toNat = _; rw [hxs, hds]
      generalize s[k] = x at HC hxD hxs hgk
      generalize (digitsL m)[k] = d at hdb hds hdw hgk
      have hd1 := hdb.1
      have hd2 := hdb.2
      obtain ⟨y, hy⟩ : ∃ y, walkB x k d (15 - d).toNat = y := ⟨_, rfl⟩
      have hyD : IsD y := by rw [← hy]; exact isD_walk hxD _ _ _
      rw [hy] at hgk
      have HX := Lib.hid hxD
      have HIX := Lib.hid (infoD hxD)
      have HYD := Lib.hid hyD
      have HY32 := Lib.hid (show (ofK .u8 y).length = 32 by rw [length_ofK, hyD.1])
      have HGK := Lib.hid hgk
      clear hyD hgk
      have HY := Lib.hid hy
      clear hcl hxs hkd hdb hds hxD hy
      go_wp2_with (with_reducible refine wpList_load_any rfl 23 (.tmp 19) rfl sg (sgo + k * 32) rfl (ofK .u8 x) _ HC.out Try.underlying23 rfl HIX.out ?_)
      refine (lwalk_any x k d 15 wr HX.out hk0 hk32 hd1 hd2 (by omega)).mono ?_
      rintro e w8 ⟨rfl, hb8⟩
      have H8 := Lib.hid (HR.out.below hb8)
      clear hb8
      rw [HY.out]
      clear HR
      go_wp2_with (first
        | ((with_reducible refine wpList_slice_one w8 rfl 54 (.tmp 23) rfl Try.underlying54 Try.sizeId Try.zeroId Try.id1 Try.id2 (ofK .u8 y) HY32.out rfl ?_); intro w9 hb hbel hsz; have H9 := Lib.hid (And.intro hb (H8.out.below hbel)); clear hb hbel hsz)
        | (at_builtin; refine wpList_append_id w9 rfl (.tmp 16) (.tmp 24) rfl w4.heap.size (.slice ao k cp) k (rowL (recG m s) k) rfl (by have := H9.out.2.row; rwa [rowL_length] at this) w8.heap.size y rfl H9.out.1 HYD.out (by omega) H9.out.2.bel.size ?_))
      intro ao2 cp2 u11 hown hgr _
      have HE := Lib.hid (show RowI w4 (.slice ao2 (k + 1) cp2) (rowL (recG m s) (k + 1)) u11 from by
        rw [rowL_succ, HGK.out]; exact H9.out.2.appended (by rw [rowL_length, List.flatten_append, List.flatten_cons, List.flatten_nil, List.append_nil]; exact hown) hgr)
      clear hown hgr
      go_wp2_with fail
      go_roundw
      case rel => exact ⟨k + 1, by omega, by go_num, ao2, cp2, rfl, HE⟩
      case measure => simp [intOf]; omega
    · obtain rfl : k = 67 := by omega
      have hrD : ∀ x ∈ rowL (recG m s) 67, IsD x := rowL_D (fun i hi => by unfold recG; rw [List.getD_eq_getElem?_getD, List.getElem?_eq_getElem (by rw [HS.out.2.1]; exact hi)]; exact isD_walk (HS.out.2.2 _ (List.getElem_mem _)) _ _ _)
      have HRD := Lib.hid hrD
      have HQ := Lib.hid (isD_sum (digB_allB (c := 75) (nums := []) (by omega) hrD))
      have HIQ := Lib.hid (infoD HQ.out)
      have HLQ := Lib.hid (lenD HQ.out isD_zer)
      clear hrD
      go_wp2_with fail
      refine (ends_any _ (rowL (recG m s) 67) wr (SlD.of_owns HR.out.row (rfl) HRD.out |> (fun h => by exact h)) (by rw [rowL_length]; omega) HRD.out).mono ?_
      rintro e w8 ⟨rfl, hb8⟩
      have H8 := Lib.hid (show Blk w8 w1.heap.size 23 (ofK .u8 zer32) ∧ Below w.heap.size w w8 from ⟨(HB4.out.res.below HR.out.bel HB4.out.res.lt).below hb8 (by have := HR.out.bel.size; have := HB4.out.res.lt; omega), below_thn (below_thn HB4.out.bel HR.out.bel (Nat.le_refl _)) hb8 (Nat.le_refl _)⟩)
      clear hb8
      go_wp2_with ((with_reducible refine wpList_store_blk w8 rfl 23 (.tmp 4) (.tmp 28) rfl w1.heap.size 23 (ofK .u8 zer32) (ofK .u8 (sumL (digB 75 [] (rowL (recG m s) 67)))) H8.out.1 rfl rfl HLQ.out HIQ.out (one_ofK _ _) ?_); intro w9 hb hc hs; have H9 := Lib.hid (And.intro hb hc); clear hb hc hs)
      refine bodyPost_ret (results_blk Try.results63 _ _ w1.heap.size _ _ rfl H9.out.1 _ Try.underlying23 rfl HIQ.out) rfl ⟨rfl, ?_⟩
      exact below_ch H8.out.2 H9.out.2 (Nat.le_refl _) (fun k hk => by have : k = w1.heap.size := hk; have := HB4.out.le; omega)

set_option maxRecDepth 100000 in
set_option maxHeartbeats 4000000 in
theorem lsigned_any (seed m : List Int) (w : World) (hs : IsD seed) (hm : IsD m) :
    Calls Try.prog 58 #[.agg (ofK .u8 seed).toArray, .agg (ofK .u8 m).toArray] w (fun e w' => ∃ ao c, e = .returned (.slice ao 67 c) ∧ w'.ownsRow w.heap.size 23 32 (.slice ao 67 c) 67 (ofK .u8 (sigOf seed m).flatten) ∧ Below w.heap.size w w') := by
  have HX := Lib.hid hs
  have HIS := Lib.hid (infoD hs)
  have HM := Lib.hid hm
  have HI := Lib.hid (infoD hm)
  clear hs hm
  go_enter Try.func58, Try.ntmps58
  go_wp2_with (first
    | (with_reducible refine wpList_box_blk w rfl 23 (.tmp 0) rfl (ofK .u8 seed) rfl ?_; intro w1 hb hbel hsz; have HB1 := Lib.hid (And.intro hb (And.intro hbel hsz)); clear hb hbel hsz)
    | (with_reducible refine wpList_box_blk w1 rfl 23 (.tmp 1) rfl (ofK .u8 m) rfl ?_; intro w3 hb hbel hsz; have HB3 := Lib.hid (And.intro (HB1.out.1.below hbel HB1.out.1.lt) (And.intro hb (below_thn HB1.out.2.1 hbel (Nat.le_refl _)))); have HRM := Lib.hid (rangeW_blk hb); clear hb hbel hsz)
    | (with_reducible refine wpList_load_any rfl 23 (.tmp 3) rfl w1.heap.size 0 rfl (ofK .u8 m) _ HRM.out Try.underlying23 rfl HI.out ?_))
  refine (rdigits_any m w3 HM.out).mono ?_
  rintro e w4 ⟨dao, dcp, rfl, hown, hb4⟩
  obtain ⟨dao', dcp', hdv, _, _, hdc⟩ := (Sl.of_owns hown).nums
  rw [digitsL_length HM.out] at hdv
  obtain ⟨rfl, rfl⟩ : dao = dao' ∧ dcp = dcp' := by simpa using hdv
  obtain ⟨dg, dgo, rfl, _, hdcell⟩ := hdc (by rw [digitsL_length HM.out]; omega)
  have HDC := Lib.hid hdcell
  have HB4 := Lib.hid (show Blk w4 w.heap.size 23 (ofK .u8 seed) ∧ Below w.heap.size w w4 from ⟨HB3.out.1.below hb4 HB3.out.1.lt, below_thn HB3.out.2.2 hb4 (Nat.le_refl _)⟩)
  clear hown hb4 hdv hdc hdcell HRM
  go_wp2_with fail
  go_loopw [5, 6, 7, 11] (fun rv _ _ i wr => ∃ k : Nat, k ≤ 67 ∧ i = .int .i64 k ∧ ∃ ao cp, rv = .slice ao k cp ∧ Hid (RowI w4 (.slice ao k cp) (rowL (sigL seed m) k) wr)) (fun _ _ _ i _ => 67 - (intOf i).toNat)
  case atStart => exact ⟨0, by omega, rfl, none, 0, rfl, Lib.hid (RowI.nil w4)⟩
  case round =>
    obtain ⟨k, hk, rfl, ao, cp, rfl, HR⟩ := hrel
    by_cases hlt : k < 67
    · have hk32 : (k : Int) < 67 := by omega
      have hk0 : (0 : Int) ≤ (k : Int) := by omega
      have HRX := Lib.hid (rangeW_blk (HB4.out.1.below HR.out.bel HB4.out.1.lt))
      have hkd : k < (digitsL m).length := by rw [digitsL_length HM.out]; exact hlt
      have hdb := digitsL_bd HM.out _ (List.getElem_mem hkd)
      have hds : (digitsL m).getD k 0 = (digitsL m)[k] := by rw [List.getD_eq_getElem?_getD, List.getElem?_eq_getElem hkd]; rfl
      have hdw := (HR.out.bel.cell (p := ⟨dg, dgo + k, none⟩) (block_of_cell (HDC.out k hkd))).trans (HDC.out k hkd)
      have hgk : sigL seed m k = walkB (startB seed k) k 0 ((digitsL m)[k]).toNat := by unfold sigL; rw [hds]
      generalize (digitsL m)[k] = d at hdb hds hdw hgk
      have hd1 := hdb.1
      have hd2 := hdb.2
      obtain ⟨y, hy⟩ : ∃ y, walkB (startB seed k) k 0 d.toNat = y := ⟨_, rfl⟩
      have hyD : IsD y := by rw [← hy]; exact isD_walk (isD_start HX.out k) _ _ _
      rw [hy] at hgk
      have HYD := Lib.hid hyD
      have HY32 := Lib.hid (show (ofK .u8 y).length = 32 by rw [length_ofK, hyD.1])
      have HGK := Lib.hid hgk
      clear hyD hgk
      have HY := Lib.hid hy
      clear hkd hdb hds hy
      go_wp2_with (with_reducible refine wpList_load_any rfl 23 (.tmp 2) rfl w.heap.size 0 rfl (ofK .u8 seed) _ HRX.out Try.underlying23 rfl HIS.out ?_)
      refine (lstart_any seed k wr HX.out hk0 (by omega)).mono ?_
      rintro e w5 ⟨rfl, hb5⟩
      have H5 := Lib.hid (HR.out.below hb5)
      clear hb5
      go_wp2_with fail
      refine (lwalk_any (startB seed k) k 0 d w5 (isD_start HX.out k) hk0 hk32 (by omega) hd1 hd2).mono ?_
      rintro e w8 ⟨rfl, hb8⟩
      have H8 := Lib.hid (H5.out.below hb8)
      clear hb8
      rw [show (d - 0).toNat = d.toNat by rw [Int.sub_zero], HY.out]
      clear HR H5
      go_wp2_with (first
        | ((with_reducible refine wpList_slice_one w8 rfl 54 (.tmp 22) rfl Try.underlying54 Try.sizeId Try.zeroId Try.id1 Try.id2 (ofK .u8 y) HY32.out rfl ?_); intro w9 hb hbel hsz; have H9 := Lib.hid (And.intro hb (H8.out.below hbel)); clear hb hbel hsz)
        | (at_builtin; refine wpList_append_id w9 rfl (.tmp 16) (.tmp 23) rfl w4.heap.size (.slice ao k cp) k (rowL (sigL seed m) k) rfl (by have := H9.out.2.row; rwa [rowL_length] at this) w8.heap.size y rfl H9.out.1 HYD.out (by omega) H9.out.2.bel.size ?_))
      intro ao2 cp2 u11 hown hgr _
      have HE := Lib.hid (show RowI w4 (.slice ao2 (k + 1) cp2) (rowL (sigL seed m) (k + 1)) u11 from by
        rw [rowL_succ, HGK.out]; exact H9.out.2.appended (by rw [rowL_length, List.flatten_append, List.flatten_cons, List.flatten_nil, List.append_nil]; exact hown) hgr)
      clear hown hgr
      go_wp2_with fail
      go_roundw
      case rel => exact ⟨k + 1, by omega, by go_num, ao2, cp2, rfl, HE⟩
      case measure => simp [intOf]; omega
    · obtain rfl : k = 67 := by omega
      go_wp2_with fail
      go_ret
      exact ⟨ao, cp, rfl, ownsRow_base (by have := HR.out.row; rwa [rowL_length] at this) HB4.out.2.size, below_thn HB4.out.2 HR.out.bel (Nat.le_refl _)⟩

end Go.Proofs.Ytkbhehnpgnilmaa
