/-
  Layer 8: trees of digests, plain; package merkle: leafed, Seed, Join; the law's seed and join, walked. Conditions: bytes.
  A range over a function whose values lie in memory: what the iterator tells is told of the world that the round meets. No program in sight. Conditions: the iterator turns nothing old between two rounds.
  Package merkle: the iterator over the rows, walked. Conditions: a seed of 32 bytes.
  Package merkle: rows and Root, walked. Conditions: a seed of 32 bytes.
  Package merkle: Path, walked. Conditions: a seed of 32 bytes.
-/
import Derived.Test.YtkbhehnpgnilmaaLwZ
import Derived.Test.YtkbhehnpgnilmaaRgIn
import Derived.Test.YtkbhehnpgnilmaaWtL
import Derived.Test.YtkbhehnpgnilmaaWtM
namespace Go.Proofs.Ytkbhehnpgnilmaa
open Go Go.RowKit
set_option linter.unusedSimpArgs false

def leafS (s : List Int) (i : Int) : List Int := sumL (digB 76 [i] [s])
def joinB (a b : List Int) : List Int := sumL (digB 78 [] [a, b])
theorem isD_leafS {s : List Int} (h : IsD s) (i : Int) : IsD (leafS s i) := isD_sum (digB_allB (by omega) (all1 h))
theorem isD_join {a b : List Int} (ha : IsD a) (hb : IsD b) : IsD (joinB a b) := isD_sum (digB_allB (by omega) (all2 ha hb))
/-- two by two -/
def pairsM : List (List Int) → List (List Int)
  | a :: b :: l => joinB a b :: pairsM l
  | _ => []
def leafK (s : List Int) (i : Nat) : List Int := keyOf (leafS s i)
/-- the rows of a seed's tree, from the keys up -/
def rowM (s : List Int) : Nat → List (List Int)
  | 0 => rowL (leafK s) 8
  | n + 1 => pairsM (rowM s n)
theorem isD_leafK {s : List Int} (h : IsD s) (i : Nat) : IsD (leafK s i) := isD_key (isD_leafS h i)
theorem pairs_D : ∀ {l : List (List Int)}, (∀ x ∈ l, IsD x) → ∀ x ∈ pairsM l, IsD x
  | [], _ => by simp [pairsM]
  | [_], _ => by simp [pairsM]
  | a :: b :: l, h => fun x hx => by
    rcases List.mem_cons.1 hx with rfl | hx
    · exact isD_join (h a (by simp)) (h b (by simp))
    · exact pairs_D (fun y hy => h y (by simp [hy])) x hx
theorem rowM_D {s : List Int} (h : IsD s) : ∀ n, ∀ x ∈ rowM s n, IsD x
  | 0 => rowL_D fun i _ => isD_leafK h i
  | n + 1 => pairs_D (rowM_D h n)
theorem pairs_length : ∀ l : List (List Int), (pairsM l).length = l.length / 2
  | [] => rfl
  | [_] => by simp [pairsM]
  | a :: b :: l => by
    show (pairsM l).length + 1 = (l.length + 2) / 2
    rw [pairs_length l]; omega
def rootM (s : List Int) : List Int := (rowM s 3).getD 0 []
def pathM (s : List Int) (n : Nat) : List (List Int) := [(rowM s 0).getD (n ^^^ 1) [], (rowM s 1).getD (n / 2 ^^^ 1) [], (rowM s 2).getD (n / 4 ^^^ 1) []]
/-- what is reached from a key -/
def climbM (x : List Int) (n : Nat) : List (List Int) → List Int
  | [] => x
  | y :: l => climbM (if n % 2 = 0 then joinB x y else joinB y x) (n / 2) l
theorem row0 (s : List Int) : rowM s 0 = [leafK s 0, leafK s 1, leafK s 2, leafK s 3, leafK s 4, leafK s 5, leafK s 6, leafK s 7] := rfl
theorem leads (s : List Int) (n : Nat) (h : n < 8) : climbM (leafK s n) n (pathM s n) = rootM s := by
  rcases (show n = 0 ∨ n = 1 ∨ n = 2 ∨ n = 3 ∨ n = 4 ∨ n = 5 ∨ n = 6 ∨ n = 7 by omega) with rfl | rfl | rfl | rfl | rfl | rfl | rfl | rfl <;>
  · unfold pathM rootM
    rw [show rowM s 3 = pairsM (pairsM (pairsM (rowM s 0))) from rfl, show rowM s 2 = pairsM (pairsM (rowM s 0)) from rfl, show rowM s 1 = pairsM (rowM s 0) from rfl, row0]
    generalize leafK s 0 = k0
    generalize leafK s 1 = k1
    generalize leafK s 2 = k2
    generalize leafK s 3 = k3
    generalize leafK s 4 = k4
    generalize leafK s 5 = k5
    generalize leafK s 6 = k6
    generalize leafK s 7 = k7
    simp [pairsM, climbM]

theorem leafed_any (n : Int) (w : World) : Calls Try.prog 108 #[.int .i64 n] w (fun e w' => e = .returned (.bool (decide (0 ≤ n) && decide (n < 8))) ∧ w = w') := by
  by_cases h0 : 0 ≤ n
  · by_cases h1 : n < 8
    · have e : (decide (0 ≤ n) && decide (n < 8)) = true := by simp [h0, h1]
      rw [e]; clear e
      go_enter Try.func108, Try.ntmps108
      go_wp2
      go_ret
      exact ⟨rfl, rfl⟩
    · have e : (decide (0 ≤ n) && decide (n < 8)) = false := by simp [h1]
      rw [e]; clear e
      go_enter Try.func108, Try.ntmps108
      go_wp2
      go_ret
      exact ⟨rfl, rfl⟩
  · have e : (decide (0 ≤ n) && decide (n < 8)) = false := by simp [h0]
    rw [e]; clear e
    go_enter Try.func108, Try.ntmps108
    go_wp2
    go_ret
    exact ⟨rfl, rfl⟩
theorem leafed_ok (n : Int) (w : World) (h0 : 0 ≤ n) (h1 : n < 8) : Calls Try.prog 108 #[.int .i64 n] w (fun e w' => e = .returned (.bool true) ∧ w = w') := by
  have := leafed_any n w
  rwa [show (decide (0 ≤ n) && decide (n < 8)) = true by simp [h0, h1]] at this
theorem leafed_bad (n : Int) (w : World) (h : ¬ (0 ≤ n ∧ n < 8)) : Calls Try.prog 108 #[.int .i64 n] w (fun e w' => e = .returned (.bool false) ∧ w = w') := by
  have := leafed_any n w
  rwa [show (decide (0 ≤ n) && decide (n < 8)) = false by simp; omega] at this

set_option maxRecDepth 100000 in
set_option maxHeartbeats 2000000 in
theorem seed_ok (x : List Int) (c : Int) (w : World) (hx : IsD x) (hc0 : 0 ≤ c) (hc1 : c < 8) :
    Calls Try.prog 80 #[.agg (ofK .u8 x).toArray, .int .i64 c] w (DigP w (leafS x c) 0) := by
  obtain ⟨i0, hi, hz0, hz1, hz2⟩ := info_parts Try.info5
  have HX := Lib.hid hx
  have ec : c % 256 = c := by omega
  have HQ := Lib.hid (show digB 76 [c] [x] = [76, c] ++ x from by simp [digB, ec])
  have HQA := Lib.hid (digB_allB (c := 76) (nums := [c]) (l := [x]) (by omega) (all1 hx))
  have HS := Lib.hid (isD_sum HQA.out)
  have HSI := Lib.hid (infoD HS.out)
  have HSL := Lib.hid (lenD HS.out isD_zer)
  have wc : IntKind.u8.wrap c = c := by rw [IntKind.wrap_u8]; omega
  clear hx
  go_enter Try.func80, Try.ntmps80
  go_wp2_with (first
    | (with_reducible refine wpList_box_blk w rfl 23 (.tmp 0) rfl (ofK .u8 x) rfl ?_; intro w1 hb1 hbel1 hsz1; have HB1 := Lib.hid (And.intro hb1 (And.intro hbel1 hsz1)); clear hb1 hbel1 hsz1)
    | ((with_reducible refine wpList_alloc_blk w1 rfl 23 rfl (ofK .u8 zer32) Try.zeroId ?_); intro w2 hb hbel hsz; have HB2 := Lib.hid (And.intro hb (And.intro (HB1.out.1.below hbel HB1.out.1.lt) (And.intro (below_thn HB1.out.2.1 hbel (Nat.le_refl _)) (show w.heap.size < w1.heap.size ∧ w1.heap.size < w2.heap.size by have := HB1.out.2.2; omega)))); clear hb hbel hsz))
  refine (leafed_ok c w2 hc0 hc1).mono ?_
  rintro e wz ⟨rfl, rfl⟩
  go_wp2_with (at_builtin; refine wpList_append_sl (w2.alloc (.cells #[.int .u8 76, .int .u8 c] 5)) rfl (.tmp 12) (.tmp 13) 33 rfl w2.heap.size 5 i0 (.int .u8 0) 1 Try.underlying33 hi hz0 hz1 hz2 rfl _ 2 (ofK .u8 [76, c]) rfl (Blk.owns (xs := ofK .u8 [76, c]) (Blk.new w2 (ofK .u8 [76, c]) 5) (Nat.le_refl _) (by simp [ofK, maxLen])) _ (ofK .u8 x) rfl (sl_id HX.out (HB2.out.2.1.alloc _)) (one_ofK _ _) 34 ?_ ?_ ?_ ?_ ?_)
  · rw [length_ofK, HX.out.1]
  · unfold maxLen; omega
  · omega
  · simp
  intro ao cp w3 hown hgr _
  have hb3 : Below w2.heap.size w2 w3 := ((Below.refl _ w2).alloc (Nat.le_refl _) _).grown hgr (by simp) (fun k h => by cases h; exact Nat.le_refl _)
  have H3 := Lib.hid (show w3.ownsRow w2.heap.size 5 1 (.slice ao 34 cp) 34 (ofK .u8 (digB 76 [c] [x])) ∧ Blk w3 w1.heap.size 23 (ofK .u8 zer32) ∧ Below w.heap.size w w3 from ⟨by rw [HQ.out]; have := hown; simp only [ofK, List.map_append] at this ⊢; exact this, HB2.out.1.below hb3 HB2.out.1.lt, below_thn HB2.out.2.2.1 hb3 (Nat.le_refl _)⟩)
  clear hown hgr hb3
  go_wp2_with fail
  refine (sum_any _ _ w3 (Sl.of_owns H3.out.1) (by rw [HQ.out]; simp [HX.out.1]) HQA.out).mono ?_
  rintro e w5 ⟨rfl, hb5⟩
  have H5 := Lib.hid (And.intro (H3.out.2.1.below hb5 H3.out.2.1.lt) (below_thn H3.out.2.2 hb5 (Nat.le_refl _)))
  clear hb5
  go_wp2_with ((with_reducible refine wpList_store_blk w5 rfl 23 (.tmp 4) (.tmp 15) rfl w1.heap.size 23 (ofK .u8 zer32) (ofK .u8 (sumL (digB 76 [c] [x]))) H5.out.1 rfl rfl HSL.out HSI.out (one_ofK _ _) ?_); intro w6 hb hc hs; have H6 := Lib.hid (And.intro hb hc); clear hb hc hs)
  refine bodyPost_ret (results_cellTmp Try.results80 _ _ w1.heap.size _ _ rfl H6.out.1 _ Try.underlying23 rfl HSI.out _ rfl) rfl ⟨rfl, ?_⟩
  exact below_ch H5.out.2 H6.out.2 (Nat.le_refl _) (fun k hk => by have : k = w1.heap.size := hk; have := HB2.out.2.2.2; omega)

set_option maxRecDepth 100000 in
set_option maxHeartbeats 2000000 in
theorem seed_bad (x : List Int) (c : Int) (w : World) (h : ¬ (0 ≤ c ∧ c < 8)) :
    Calls Try.prog 80 #[.agg (ofK .u8 x).toArray, .int .i64 c] w (DigP w zer32 2) := by
  have HZI := Lib.hid (infoD isD_zer)
  have HH := Lib.hid h
  clear h
  go_enter Try.func80, Try.ntmps80
  go_wp2_with (first
    | (with_reducible refine wpList_box_blk w rfl 23 (.tmp 0) rfl (ofK .u8 x) rfl ?_; intro w1 hb1 hbel1 hsz1; have HB1 := Lib.hid (And.intro hb1 (And.intro hbel1 hsz1)); clear hb1 hbel1 hsz1)
    | ((with_reducible refine wpList_alloc_blk w1 rfl 23 rfl (ofK .u8 zer32) Try.zeroId ?_); intro w2 hb hbel hsz; have HB2 := Lib.hid (And.intro hb (And.intro (below_thn HB1.out.2.1 hbel (Nat.le_refl _)) (show w.heap.size < w1.heap.size by have := HB1.out.2.2; omega))); clear hb hbel hsz))
  refine (leafed_bad c w2 HH.out).mono ?_
  rintro e wz ⟨rfl, rfl⟩
  go_wp2_with (first
    | (with_reducible refine wpList_build_zer rfl rfl ?_)
    | ((with_reducible refine wpList_store_blk w2 rfl 23 (.tmp 4) (.tmp 9) rfl w1.heap.size 23 (ofK .u8 zer32) (ofK .u8 zer32) HB2.out.1 rfl rfl rfl HZI.out (one_ofK _ _) ?_); intro w6 hb hc hs; have H6 := Lib.hid (And.intro hb hc); clear hb hc hs))
  refine bodyPost_ret (results_cellTmp Try.results80 _ _ w1.heap.size _ _ rfl H6.out.1 _ Try.underlying23 rfl HZI.out _ rfl) rfl ⟨rfl, ?_⟩
  exact below_ch HB2.out.2.1 H6.out.2 (Nat.le_refl _) (fun k hk => by have : k = w1.heap.size := hk; have := HB2.out.2.2; omega)

set_option maxRecDepth 100000 in
set_option maxHeartbeats 2000000 in
theorem lseed_any (x : List Int) (c : Int) (w : World) (hx : IsD x) (hc0 : 0 ≤ c) (hc1 : c < 8) :
    Calls Try.prog 73 #[.agg (ofK .u8 x).toArray, .int .i64 c] w (fun e w' => e = .returned (.agg (ofK .u8 (leafS x c)).toArray) ∧ Below w.heap.size w w') := by
  obtain ⟨i0, hi, hz0, hz1, hz2⟩ := info_parts Try.info5
  have HX := Lib.hid hx
  have ec : c % 256 = c := by omega
  have HQ := Lib.hid (show digB 76 [c] [x] = [76, c] ++ x from by simp [digB, ec])
  have HQA := Lib.hid (digB_allB (c := 76) (nums := [c]) (l := [x]) (by omega) (all1 hx))
  have HS := Lib.hid (isD_sum HQA.out)
  have HSI := Lib.hid (infoD HS.out)
  have HSL := Lib.hid (lenD HS.out isD_zer)
  have wc : IntKind.u8.wrap c = c := by rw [IntKind.wrap_u8]; omega
  clear hx
  go_enter Try.func73, Try.ntmps73
  go_wp2_with (first
    | (with_reducible refine wpList_box_blk w rfl 23 (.tmp 0) rfl (ofK .u8 x) rfl ?_; intro w1 hb1 hbel1 hsz1; have HB1 := Lib.hid (And.intro hb1 (And.intro hbel1 hsz1)); clear hb1 hbel1 hsz1)
    | ((with_reducible refine wpList_alloc_blk w1 rfl 23 rfl (ofK .u8 zer32) Try.zeroId ?_); intro w2 hb hbel hsz; have HB2 := Lib.hid (And.intro hb (And.intro (HB1.out.1.below hbel HB1.out.1.lt) (And.intro (below_thn HB1.out.2.1 hbel (Nat.le_refl _)) (show w.heap.size < w1.heap.size ∧ w1.heap.size < w2.heap.size by have := HB1.out.2.2; omega)))); clear hb hbel hsz)
    | (at_builtin; refine wpList_append_sl (w2.alloc (.cells #[.int .u8 76, .int .u8 c] 5)) rfl (.tmp 7) (.tmp 8) 33 rfl w2.heap.size 5 i0 (.int .u8 0) 1 Try.underlying33 hi hz0 hz1 hz2 rfl _ 2 (ofK .u8 [76, c]) rfl (Blk.owns (xs := ofK .u8 [76, c]) (Blk.new w2 (ofK .u8 [76, c]) 5) (Nat.le_refl _) (by simp [ofK, maxLen])) _ (ofK .u8 x) rfl (sl_id HX.out (HB2.out.2.1.alloc _)) (one_ofK _ _) 34 ?_ ?_ ?_ ?_ ?_))
  · rw [length_ofK, HX.out.1]
  · unfold maxLen; omega
  · omega
  · simp
  intro ao cp w3 hown hgr _
  have hb3 : Below w2.heap.size w2 w3 := ((Below.refl _ w2).alloc (Nat.le_refl _) _).grown hgr (by simp) (fun k h => by cases h; exact Nat.le_refl _)
  have H3 := Lib.hid (show w3.ownsRow w2.heap.size 5 1 (.slice ao 34 cp) 34 (ofK .u8 (digB 76 [c] [x])) ∧ Blk w3 w1.heap.size 23 (ofK .u8 zer32) ∧ Below w.heap.size w w3 from ⟨by rw [HQ.out]; have := hown; simp only [ofK, List.map_append] at this ⊢; exact this, HB2.out.1.below hb3 HB2.out.1.lt, below_thn HB2.out.2.2.1 hb3 (Nat.le_refl _)⟩)
  clear hown hgr hb3
  go_wp2_with fail
  refine (sum_any _ _ w3 (Sl.of_owns H3.out.1) (by rw [HQ.out]; simp [HX.out.1]) HQA.out).mono ?_
  rintro e w5 ⟨rfl, hb5⟩
  have H5 := Lib.hid (And.intro (H3.out.2.1.below hb5 H3.out.2.1.lt) (below_thn H3.out.2.2 hb5 (Nat.le_refl _)))
  clear hb5
  go_wp2_with ((with_reducible refine wpList_store_blk w5 rfl 23 (.tmp 4) (.tmp 10) rfl w1.heap.size 23 (ofK .u8 zer32) (ofK .u8 (sumL (digB 76 [c] [x]))) H5.out.1 rfl rfl HSL.out HSI.out (one_ofK _ _) ?_); intro w6 hb hc hs; have H6 := Lib.hid (And.intro hb hc); clear hb hc hs)
  refine bodyPost_ret (results_blk Try.results73 _ _ w1.heap.size _ _ rfl H6.out.1 _ Try.underlying23 rfl HSI.out) rfl ⟨rfl, ?_⟩
  exact below_ch H5.out.2 H6.out.2 (Nat.le_refl _) (fun k hk => by have : k = w1.heap.size := hk; have := HB2.out.2.2.2; omega)

set_option maxRecDepth 100000 in
set_option maxHeartbeats 2000000 in
theorem join_any (a b : List Int) (w : World) (ha : IsD a) (hb : IsD b) :
    Calls Try.prog 66 #[.agg (ofK .u8 a).toArray, .agg (ofK .u8 b).toArray] w (fun e w' => e = .returned (.agg (ofK .u8 (joinB a b)).toArray) ∧ Below w.heap.size w w') := by
  obtain ⟨i0, hi, hz0, hz1, hz2⟩ := info_parts Try.info5
  have HA := Lib.hid ha
  have HB := Lib.hid hb
  have HQ := Lib.hid (show digB 78 [] [a, b] = ([78] ++ a) ++ b from by simp [digB])
  have HQA := Lib.hid (digB_allB (c := 78) (nums := []) (l := [a, b]) (by omega) (all2 ha hb))
  have HS := Lib.hid (isD_sum HQA.out)
  have HSI := Lib.hid (infoD HS.out)
  have HSL := Lib.hid (lenD HS.out isD_zer)
  clear ha hb
  go_enter Try.func66, Try.ntmps66
  go_wp2_with (first
    | (with_reducible refine wpList_box_blk w rfl 23 (.tmp 0) rfl (ofK .u8 a) rfl ?_; intro w1 hb hbel hsz; have HB1 := Lib.hid (And.intro hb (And.intro hbel hsz)); clear hb hbel hsz)
    | (with_reducible refine wpList_box_blk w1 rfl 23 (.tmp 1) rfl (ofK .u8 b) rfl ?_; intro w2 hb hbel hsz; have HB2 := Lib.hid (And.intro (HB1.out.1.below hbel HB1.out.1.lt) (And.intro hb (And.intro (below_thn HB1.out.2.1 hbel (Nat.le_refl _)) (show w.heap.size < w1.heap.size ∧ w1.heap.size < w2.heap.size by have := HB1.out.2.2; omega)))); clear hb hbel hsz)
    | ((with_reducible refine wpList_alloc_blk w2 rfl 23 rfl (ofK .u8 zer32) Try.zeroId ?_); intro w3 hb hbel hsz; have HB3 := Lib.hid (show Blk w3 w.heap.size 23 (ofK .u8 a) ∧ Blk w3 w1.heap.size 23 (ofK .u8 b) ∧ Blk w3 w2.heap.size 23 (ofK .u8 zer32) ∧ Below w.heap.size w w3 ∧ w.heap.size < w2.heap.size from ⟨HB2.out.1.below hbel HB2.out.1.lt, HB2.out.2.1.below hbel HB2.out.2.1.lt, hb, below_thn HB2.out.2.2.1 hbel (Nat.le_refl _), by have := HB2.out.2.2.2; omega⟩); clear hb hbel hsz))
  simp only [Act.put, List.setIfInBounds_toArray, List.set_cons_zero, List.set_cons_succ]
  have HB4 := Lib.hid (show Blk w3.drew w.heap.size 23 (ofK .u8 a) ∧ Blk w3.drew w1.heap.size 23 (ofK .u8 b) ∧ Blk w3.drew w2.heap.size 23 (ofK .u8 zer32) ∧ Below w.heap.size w w3.drew ∧ w.heap.size < w2.heap.size from ⟨HB3.out.1.below (Below.refl _ w3).drew HB3.out.1.lt, HB3.out.2.1.below (Below.refl _ w3).drew HB3.out.2.1.lt, HB3.out.2.2.1.below (Below.refl _ w3).drew HB3.out.2.2.1.lt, HB3.out.2.2.2.1.drew, HB3.out.2.2.2.2⟩)
  refine wp_region_takes (fun _ => Hid True) [1, 3] 5 (by kernel_rfl) rfl (by kernel_rfl) (by kernel_rfl) (Lib.hid trivial) ?_
  generalize w3.drew = v0 at HB4 ⊢
  clear HB1 HB2 HB3
  iterate 2 (refine' HeldL.run ?_ ?_ ?_ ?_; rotate_left 2; (simp only [List.getElem?_toArray, List.getElem?_cons_zero, List.getElem?_cons_succ]; rfl); rfl; (rintro w' _; go_simp; with_reducible rfl); simp only [Act.put, List.setIfInBounds_toArray, List.set_cons_zero, List.set_cons_succ])
  refine' wpAnyH_one 0 (by kernel_rfl) ?_ ?_; rotate_left; (simp only [List.getElem?_toArray, List.getElem?_cons_zero, List.getElem?_cons_succ]; rfl)
  go_wp2_with fail
  refine QK.normal ⟨Lib.hid trivial, ?_⟩
  refine' wpAnyH_one 2 (by kernel_rfl) ?_ ?_; rotate_left; (simp only [List.getElem?_toArray, List.getElem?_cons_zero, List.getElem?_cons_succ]; rfl)
  try simp only [Act.put]
  refine wpList_append_sl (v0.alloc (.cells #[.int .u8 78] 5)) rfl (.tmp 5) (.tmp 6) 33 rfl v0.heap.size 5 i0 (.int .u8 0) 1 Try.underlying33 hi hz0 hz1 hz2 rfl _ 1 (ofK .u8 [78]) rfl (Blk.owns (xs := ofK .u8 [78]) (Blk.new v0 (ofK .u8 [78]) 5) (Nat.le_refl _) (by simp [ofK, maxLen])) _ (ofK .u8 a) rfl (sl_id HA.out (HB4.out.1.alloc _)) (one_ofK _ _) 33 ?_ ?_ ?_ ?_ ?_
  · rw [length_ofK, HA.out.1]
  · unfold maxLen; omega
  · omega
  · simp
  intro ao cp w4 hown hgr _
  have hb4 : Below v0.heap.size v0 w4 := ((Below.refl _ v0).alloc (Nat.le_refl _) _).grown hgr (by simp) (fun k h => by cases h; exact Nat.le_refl _)
  have H4 := Lib.hid (show w4.ownsRow v0.heap.size 5 1 (.slice ao 33 cp) 33 (ofK .u8 ([78] ++ a)) ∧ Blk w4 w1.heap.size 23 (ofK .u8 b) ∧ Blk w4 w2.heap.size 23 (ofK .u8 zer32) ∧ Below w.heap.size w w4 ∧ Below v0.heap.size v0 w4 from ⟨by have := hown; simp only [ofK, List.map_append] at this ⊢; exact this, HB4.out.2.1.below hb4 HB4.out.2.1.lt, HB4.out.2.2.1.below hb4 HB4.out.2.2.1.lt, below_thn HB4.out.2.2.2.1 hb4 (Nat.le_refl _), hb4⟩)
  clear hown hgr hb4
  simp only [Act.put, List.setIfInBounds_toArray, List.set_cons_zero, List.set_cons_succ]
  refine QK.normal ⟨Lib.hid trivial, ?_⟩
  refine' wpAnyH_one 4 (by kernel_rfl) ?_ ?_; rotate_left; (simp only [List.getElem?_toArray, List.getElem?_cons_zero, List.getElem?_cons_succ]; rfl)
  refine wpList_append_sl w4 rfl (.tmp 7) (.tmp 8) 33 rfl v0.heap.size 5 i0 (.int .u8 0) 1 Try.underlying33 hi hz0 hz1 hz2 rfl _ 33 (ofK .u8 ([78] ++ a)) rfl H4.out.1 _ (ofK .u8 b) rfl (sl_id HB.out H4.out.2.1) (one_ofK _ _) 65 ?_ ?_ ?_ ?_ ?_
  · rw [length_ofK, HB.out.1]
  · unfold maxLen; omega
  · omega
  · exact H4.out.2.2.2.2.size
  intro ao2 cp2 w5 hown hgr _
  have hb5 : Below v0.heap.size v0 w5 := H4.out.2.2.2.2.grown hgr H4.out.2.2.2.2.size (fun k h => (H4.out.1.lt k h).1)
  have H5 := Lib.hid (show w5.ownsRow v0.heap.size 5 1 (.slice ao2 65 cp2) 65 (ofK .u8 (digB 78 [] [a, b])) ∧ Blk w5 w2.heap.size 23 (ofK .u8 zer32) ∧ Below w.heap.size w w5 from ⟨by rw [HQ.out]; have := hown; simp only [ofK, List.map_append] at this ⊢; exact this, HB4.out.2.2.1.below hb5 HB4.out.2.2.1.lt, below_thn HB4.out.2.2.2.1 hb5 (Nat.le_refl _)⟩)
  clear hown hgr hb5
  simp only [Act.put, List.setIfInBounds_toArray, List.set_cons_zero, List.set_cons_succ]
  refine QK.normal ⟨Lib.hid trivial, ?_⟩
  refine' wpAnyH_one 5 (by kernel_rfl) ?_ ?_; rotate_left; (simp only [List.getElem?_toArray, List.getElem?_cons_zero, List.getElem?_cons_succ]; rfl)
  go_wp2_with fail
  refine (sum_any _ _ w5 (Sl.of_owns H5.out.1) (by rw [HQ.out]; simp [HA.out.1, HB.out.1]) HQA.out).mono ?_
  rintro e w6 ⟨rfl, hb6⟩
  have H6 := Lib.hid (show Blk w6 w2.heap.size 23 (ofK .u8 zer32) ∧ Below w.heap.size w w6 from ⟨H5.out.2.1.below hb6 H5.out.2.1.lt, below_thn H5.out.2.2 hb6 (Nat.le_refl _)⟩)
  clear hb6
  try go_wp2_with fail
  refine QK.normal ⟨Lib.hid trivial, ?_⟩
  refine' wpAnyH_one 6 (by kernel_rfl) ?_ ?_; rotate_left; (simp only [List.getElem?_toArray, List.getElem?_cons_zero, List.getElem?_cons_succ]; rfl)
  refine wpList_store_blk w6 rfl 23 (.tmp 4) (.tmp 10) rfl w2.heap.size 23 (ofK .u8 zer32) (ofK .u8 (sumL (digB 78 [] [a, b]))) H6.out.1 rfl rfl HSL.out HSI.out (one_ofK _ _) ?_
  intro w7 hb hc hs
  have H7 := Lib.hid (And.intro hb hc)
  clear hb hc hs
  simp only [Act.put, List.setIfInBounds_toArray, List.set_cons_zero, List.set_cons_succ]
  refine QK.normal ⟨Lib.hid trivial, ?_⟩
  refine wpAnyH_done (by kernel_rfl) ?_ _
  refine NoPanic.normal ?_
  go_wp2_with fail
  refine bodyPost_ret (results_blk Try.results66 _ _ w2.heap.size _ _ rfl H7.out.1 _ Try.underlying23 rfl HSI.out) rfl ⟨rfl, ?_⟩
  exact below_ch H6.out.2 H7.out.2 (Nat.le_refl _) (fun k hk => by have : k = w2.heap.size := hk; have := HB4.out.2.2.2.2; omega)

set_option maxRecDepth 100000 in
set_option maxHeartbeats 2000000 in
theorem ljoin_any (a b : List Int) (w : World) (ha : IsD a) (hb : IsD b) :
    Calls Try.prog 67 #[.agg (ofK .u8 a).toArray, .agg (ofK .u8 b).toArray] w (fun e w' => e = .returned (.agg (ofK .u8 (joinB a b)).toArray) ∧ Below w.heap.size w w') := by
  obtain ⟨i0, hi, hz0, hz1, hz2⟩ := info_parts Try.info5
  have HA := Lib.hid ha
  have HB := Lib.hid hb
  have HQ := Lib.hid (show digB 78 [] [a, b] = ([78] ++ a) ++ b from by simp [digB])
  have HQA := Lib.hid (digB_allB (c := 78) (nums := []) (l := [a, b]) (by omega) (all2 ha hb))
  have HS := Lib.hid (isD_sum HQA.out)
  have HSI := Lib.hid (infoD HS.out)
  have HSL := Lib.hid (lenD HS.out isD_zer)
  clear ha hb
  go_enter Try.func67, Try.ntmps67
  go_wp2_with (first
    | (with_reducible refine wpList_box_blk w rfl 23 (.tmp 0) rfl (ofK .u8 a) rfl ?_; intro w1 hb hbel hsz; have HB1 := Lib.hid (And.intro hb (And.intro hbel hsz)); clear hb hbel hsz)
    | (with_reducible refine wpList_box_blk w1 rfl 23 (.tmp 1) rfl (ofK .u8 b) rfl ?_; intro w2 hb hbel hsz; have HB2 := Lib.hid (And.intro (HB1.out.1.below hbel HB1.out.1.lt) (And.intro hb (And.intro (below_thn HB1.out.2.1 hbel (Nat.le_refl _)) (show w.heap.size < w1.heap.size ∧ w1.heap.size < w2.heap.size by have := HB1.out.2.2; omega)))); clear hb hbel hsz)
    | ((with_reducible refine wpList_alloc_blk w2 rfl 23 rfl (ofK .u8 zer32) Try.zeroId ?_); intro w3 hb hbel hsz; have HB3 := Lib.hid (show Blk w3 w.heap.size 23 (ofK .u8 a) ∧ Blk w3 w1.heap.size 23 (ofK .u8 b) ∧ Blk w3 w2.heap.size 23 (ofK .u8 zer32) ∧ Below w.heap.size w w3 ∧ w.heap.size < w2.heap.size from ⟨HB2.out.1.below hbel HB2.out.1.lt, HB2.out.2.1.below hbel HB2.out.2.1.lt, hb, below_thn HB2.out.2.2.1 hbel (Nat.le_refl _), by have := HB2.out.2.2.2; omega⟩); clear hb hbel hsz))
  simp only [Act.put, List.setIfInBounds_toArray, List.set_cons_zero, List.set_cons_succ]
  have HB4 := Lib.hid (show Blk w3.drew w.heap.size 23 (ofK .u8 a) ∧ Blk w3.drew w1.heap.size 23 (ofK .u8 b) ∧ Blk w3.drew w2.heap.size 23 (ofK .u8 zer32) ∧ Below w.heap.size w w3.drew ∧ w.heap.size < w2.heap.size from ⟨HB3.out.1.below (Below.refl _ w3).drew HB3.out.1.lt, HB3.out.2.1.below (Below.refl _ w3).drew HB3.out.2.1.lt, HB3.out.2.2.1.below (Below.refl _ w3).drew HB3.out.2.2.1.lt, HB3.out.2.2.2.1.drew, HB3.out.2.2.2.2⟩)
  refine wp_region_takes (fun _ => Hid True) [1, 3] 5 (by kernel_rfl) rfl (by kernel_rfl) (by kernel_rfl) (Lib.hid trivial) ?_
  generalize w3.drew = v0 at HB4 ⊢
  clear HB1 HB2 HB3
  iterate 2 (refine' HeldL.run ?_ ?_ ?_ ?_; rotate_left 2; (simp only [List.getElem?_toArray, List.getElem?_cons_zero, List.getElem?_cons_succ]; rfl); rfl; (rintro w' _; go_simp; with_reducible rfl); simp only [Act.put, List.setIfInBounds_toArray, List.set_cons_zero, List.set_cons_succ])
  refine' wpAnyH_one 0 (by kernel_rfl) ?_ ?_; rotate_left; (simp only [List.getElem?_toArray, List.getElem?_cons_zero, List.getElem?_cons_succ]; rfl)
  go_wp2_with fail
  refine QK.normal ⟨Lib.hid trivial, ?_⟩
  refine' wpAnyH_one 2 (by kernel_rfl) ?_ ?_; rotate_left; (simp only [List.getElem?_toArray, List.getElem?_cons_zero, List.getElem?_cons_succ]; rfl)
  try simp only [Act.put]
  refine wpList_append_sl (v0.alloc (.cells #[.int .u8 78] 5)) rfl (.tmp 5) (.tmp 6) 33 rfl v0.heap.size 5 i0 (.int .u8 0) 1 Try.underlying33 hi hz0 hz1 hz2 rfl _ 1 (ofK .u8 [78]) rfl (Blk.owns (xs := ofK .u8 [78]) (Blk.new v0 (ofK .u8 [78]) 5) (Nat.le_refl _) (by simp [ofK, maxLen])) _ (ofK .u8 a) rfl (sl_id HA.out (HB4.out.1.alloc _)) (one_ofK _ _) 33 ?_ ?_ ?_ ?_ ?_
  · rw [length_ofK, HA.out.1]
  · unfold maxLen; omega
  · omega
  · simp
  intro ao cp w4 hown hgr _
  have hb4 : Below v0.heap.size v0 w4 := ((Below.refl _ v0).alloc (Nat.le_refl _) _).grown hgr (by simp) (fun k h => by cases h; exact Nat.le_refl _)
  have H4 := Lib.hid (show w4.ownsRow v0.heap.size 5 1 (.slice ao 33 cp) 33 (ofK .u8 ([78] ++ a)) ∧ Blk w4 w1.heap.size 23 (ofK .u8 b) ∧ Blk w4 w2.heap.size 23 (ofK .u8 zer32) ∧ Below w.heap.size w w4 ∧ Below v0.heap.size v0 w4 from ⟨by have := hown; simp only [ofK, List.map_append] at this ⊢; exact this, HB4.out.2.1.below hb4 HB4.out.2.1.lt, HB4.out.2.2.1.below hb4 HB4.out.2.2.1.lt, below_thn HB4.out.2.2.2.1 hb4 (Nat.le_refl _), hb4⟩)
  clear hown hgr hb4
  simp only [Act.put, List.setIfInBounds_toArray, List.set_cons_zero, List.set_cons_succ]
  refine QK.normal ⟨Lib.hid trivial, ?_⟩
  refine' wpAnyH_one 4 (by kernel_rfl) ?_ ?_; rotate_left; (simp only [List.getElem?_toArray, List.getElem?_cons_zero, List.getElem?_cons_succ]; rfl)
  refine wpList_append_sl w4 rfl (.tmp 7) (.tmp 8) 33 rfl v0.heap.size 5 i0 (.int .u8 0) 1 Try.underlying33 hi hz0 hz1 hz2 rfl _ 33 (ofK .u8 ([78] ++ a)) rfl H4.out.1 _ (ofK .u8 b) rfl (sl_id HB.out H4.out.2.1) (one_ofK _ _) 65 ?_ ?_ ?_ ?_ ?_
  · rw [length_ofK, HB.out.1]
  · unfold maxLen; omega
  · omega
  · exact H4.out.2.2.2.2.size
  intro ao2 cp2 w5 hown hgr _
  have hb5 : Below v0.heap.size v0 w5 := H4.out.2.2.2.2.grown hgr H4.out.2.2.2.2.size (fun k h => (H4.out.1.lt k h).1)
  have H5 := Lib.hid (show w5.ownsRow v0.heap.size 5 1 (.slice ao2 65 cp2) 65 (ofK .u8 (digB 78 [] [a, b])) ∧ Blk w5 w2.heap.size 23 (ofK .u8 zer32) ∧ Below w.heap.size w w5 from ⟨by rw [HQ.out]; have := hown; simp only [ofK, List.map_append] at this ⊢; exact this, HB4.out.2.2.1.below hb5 HB4.out.2.2.1.lt, below_thn HB4.out.2.2.2.1 hb5 (Nat.le_refl _)⟩)
  clear hown hgr hb5
  simp only [Act.put, List.setIfInBounds_toArray, List.set_cons_zero, List.set_cons_succ]
  refine QK.normal ⟨Lib.hid trivial, ?_⟩
  refine' wpAnyH_one 5 (by kernel_rfl) ?_ ?_; rotate_left; (simp only [List.getElem?_toArray, List.getElem?_cons_zero, List.getElem?_cons_succ]; rfl)
  go_wp2_with fail
  refine (sum_any _ _ w5 (Sl.of_owns H5.out.1) (by rw [HQ.out]; simp [HA.out.1, HB.out.1]) HQA.out).mono ?_
  rintro e w6 ⟨rfl, hb6⟩
  have H6 := Lib.hid (show Blk w6 w2.heap.size 23 (ofK .u8 zer32) ∧ Below w.heap.size w w6 from ⟨H5.out.2.1.below hb6 H5.out.2.1.lt, below_thn H5.out.2.2 hb6 (Nat.le_refl _)⟩)
  clear hb6
  try go_wp2_with fail
  refine QK.normal ⟨Lib.hid trivial, ?_⟩
  refine' wpAnyH_one 6 (by kernel_rfl) ?_ ?_; rotate_left; (simp only [List.getElem?_toArray, List.getElem?_cons_zero, List.getElem?_cons_succ]; rfl)
  refine wpList_store_blk w6 rfl 23 (.tmp 4) (.tmp 10) rfl w2.heap.size 23 (ofK .u8 zer32) (ofK .u8 (sumL (digB 78 [] [a, b]))) H6.out.1 rfl rfl HSL.out HSI.out (one_ofK _ _) ?_
  intro w7 hb hc hs
  have H7 := Lib.hid (And.intro hb hc)
  clear hb hc hs
  simp only [Act.put, List.setIfInBounds_toArray, List.set_cons_zero, List.set_cons_succ]
  refine QK.normal ⟨Lib.hid trivial, ?_⟩
  refine wpAnyH_done (by kernel_rfl) ?_ _
  refine NoPanic.normal ?_
  go_wp2_with fail
  refine bodyPost_ret (results_blk Try.results67 _ _ w2.heap.size _ _ rfl H7.out.1 _ Try.underlying23 rfl HSI.out) rfl ⟨rfl, ?_⟩
  exact below_ch H6.out.2 H7.out.2 (Nat.le_refl _) (fun k hk => by have : k = w2.heap.size := hk; have := HB4.out.2.2.2.2; omega)

end Go.Proofs.Ytkbhehnpgnilmaa

namespace Go.Proofs.Ytkbhehnpgnilmaa
open Go Go.RowKit

/-- the iterator's word. T x: the blocks that a round must leave as they are. Pr pre x s W: x is what is told behind pre, in W, in blocks from s on -/
def SeqMem {α : Type} (F : Fence) (n : Nat) (P : Program) (g : Nat) (lb : Array Value) (encs : α → Array Value) (T : α → Nat → Prop) (Pr : List α → α → Nat → World → Prop) (S Sp : List α → Prop) (w : World) : Prop :=
  ∀ (l : Nat) (J Jx : List α → World → Prop) (W : World), Below w.heap.size w W →
    (∀ s A B, J s A → Below A.heap.size A B → J s B) → (∀ s A B, Jx s A → Below A.heap.size A B → Jx s B) →
    (∀ pre x W0 W1, J pre W0 → Below W0.heap.size W0 W1 → Pr pre x W0.heap.size W1 → YieldAt F (n - 1) P l (encs x) W1 fun e W' =>
      (e = .returned (.bool true) ∧ J (pre ++ [x]) W' ∧ W1.heap.size ≤ W'.heap.size ∧ ∀ k, T x k → W'.heap[k]? = W1.heap[k]?) ∨ (e = .returned (.bool false) ∧ Jx (pre ++ [x]) W')) →
    J [] W →
    CallsIn F n P g (#[.func (.yield l) #[] #[]] ++ lb) W fun e W' => (∃ v, e = .returned v) ∧ ((∃ xs, S xs ∧ J xs W') ∨ (∃ pre, Sp pre ∧ Jx pre W'))

theorem grown_of_below {A B : World} (h : Below A.heap.size A B) (row : Option Nat) : A.grownBy B row := ⟨h.os, h.tape, h.output, h.size, fun k hk _ => h.block k hk⟩

section
variable {F : Fence} {n : Nat} {P : Program}

theorem wpIn_range_mem {α : Type} {g : Operand} {ps : Array Tmp} {assign body : Code} {Q : Exit → Act → World → Prop} {a : Act} {w : World}
    (hro : F.round = none) (h1 : 1 ≤ n) {gf : Nat} {lb : Array Value} (hg : a.eval g = .func (.func gf) #[] lb) (hFg : F.fn gf) (eg : ∀ args w, (callFunc gf args).run P w = .ok (.enter gf args) w)
    {encs : α → Array Value} {T : α → Nat → Prop} {Pr : List α → α → Nat → World → Prop} {S Sp : List α → Prop} {w0 : World} (hseq : SeqMem F (n - 1) P gf lb encs T Pr S Sp w0)
    (hb0 : Below w0.heap.size w0 w) (hps : ∀ x, (encs x).size = ps.size)
    (hT : ∀ pre x s W k, Pr pre x s W → T x k → k < w.heap.size ∨ s ≤ k)
    (hPr : ∀ pre x s A B row, Pr pre x s A → A.grownBy B row → (∀ r, row = some r → ∃ o : Obj, A.heap[r]? = some o ∧ o.isCells = false) → Pr pre x s B)
    (I : List α → World → Prop) (Ix : Code → List α → World → Prop) (hI : OwnFrom w.heap.size I) (hIx : ∀ c, OwnFrom w.heap.size (Ix c)) (h0 : I [] w) (a₁ : α → Act)
    (hassign : ∀ (l : Nat) (x : α) (W : World) (K : Act → World → Prop), K (a₁ x) W →
      assign.wpIn (F.inRound l) (n - 1 - 1) P (Exit.then K (fun _ _ _ => False)) { tmps := (ps.zip (encs x)).foldl (fun t (p, v) => t.setIfInBounds p v) a.tmps, defers := [] } W)
    (hbody : ∀ (l : Nat) (pre : List α) (x : α) (W0 W : World), w.heap.size < l → (∃ r, W0.heap[l]? = some (.loop r)) → I pre W0 → I pre W → W0.grownBy W (some l) → Pr pre x W0.heap.size W →
      body.wpIn (F.inRound l) (n - 1 - 1) P (ownPostG w.heap.size (fun A B => ∀ k, T x k → B.heap[k]? = A.heap[k]?) I Ix (pre ++ [x]) W) (a₁ x) W)
    (hdone : ∀ (D : Nat) (xs : List α) (W : World), w.heap.size ≤ D → S xs → I xs W → W.heap[D]? = some (.deferred (some [])) → Q .normal { a with defers := { target := .collected D, args := #[] } :: a.defers } W)
    (hstop : ∀ (D : Nat) (c : Code) (pre : List α) (W : World), w.heap.size ≤ D → Sp pre → Ix c pre W → W.heap[D]? = some (.deferred (some [])) → c.wpIn F n P Q { a with defers := { target := .collected D, args := #[] } :: a.defers } W) :
    (Code.rangeFunc g ps assign body).wpIn F n P Q a w := by
  refine wpIn_rangeFunc fun fn hfn => ?_
  rw [hro]
  have hnew := run_enterLoop_outer (P := P) (w := w) fn a.tmps ps assign body
  obtain ⟨L, hL⟩ : ∃ L : Loop, L = { state := .ready, pending := none, fn := fn, tmps := a.tmps, params := ps, assign := assign, body := body, defers := w.heap.size } := ⟨_, rfl⟩
  rw [← hL] at hnew
  have pL : L.pending = none := by rw [hL]
  have sL : L.state = .ready := by rw [hL]
  obtain ⟨V, hV⟩ : ∃ V, (w.alloc (.deferred (some []))).alloc (.loop L) = V := ⟨_, rfl⟩
  rw [hV] at hnew
  have hgV : w.grownBy V none := by rw [← hV]; exact (World.grownBy_alloc w (.deferred (some [])) none).trans (World.grownBy_alloc _ (.loop L) none)
  have hloop : V.heap[w.heap.size + 1]? = some (.loop L) := by
    rw [← hV]
    have h := World.alloc_heap_new (w.alloc (.deferred (some []))) (.loop L)
    rwa [World.size_alloc] at h
  have hdef : V.heap[w.heap.size]? = some (.deferred (some [])) := by
    rw [← hV, (World.grownBy_alloc (w.alloc (.deferred (some []))) (.loop L) none).block _ (by simp) (by simp)]
    exact World.alloc_heap_new w _
  have hbV : Below w0.heap.size w0 V := ⟨hgV.os.trans hb0.os, hgV.tape.trans hb0.tape, hgV.output.trans hb0.output, Nat.le_trans hb0.size hgV.size, fun k hk => (hgV.block k (Nat.lt_of_lt_of_le hk hb0.size) (by simp)).trans (hb0.block k hk)⟩
  have none_ : ∀ {A : World} (r : Nat), (none : Option Nat) = some r → w.heap.size ≤ r ∧ ∃ o : Obj, A.heap[r]? = some o ∧ o.isCells = false := fun r e => by cases e
  have later : ∀ {A B : World} {k : Nat} {o : Obj}, Below A.heap.size A B → A.heap[k]? = some o → B.heap[k]? = some o := fun h hk => (h.block _ (Array.getElem?_eq_some_iff.1 hk).1).trans hk
  refine ⟨w.heap.size + 1, _, V, { target := .fn (.func gf) lb, args := #[.func (.yield (w.heap.size + 1)) #[] #[]] }, V, gf, #[.func (.yield (w.heap.size + 1)) #[] #[]] ++ lb, V, hnew, ?_, ?_, ?_, fun _ => h1, ?_⟩
  · simp only [resolve, hg]
    simp [go_sem]
  · intro f' hf'
    simp [Target.leads] at hf'
    subst hf'
    exact hFg
  · simp [invoke, go_sem, eg]
  refine (hseq (w.heap.size + 1)
    (fun pre W => I pre W ∧ W.heap[w.heap.size + 1]? = some (.loop L) ∧ W.heap[w.heap.size]? = some (.deferred (some [])))
    (fun pre W => ∃ c, Ix c pre W ∧ W.heap[w.heap.size + 1]? = some (.loop { L with state := .done, pending := some c }) ∧ W.heap[w.heap.size]? = some (.deferred (some [])))
    V hbV (fun s A B h hb => ⟨hI s A B none h.1 (grown_of_below hb none) none_, later hb h.2.1, later hb h.2.2⟩)
    (fun s A B h hb => by
      obtain ⟨c, x, y, z⟩ := h
      exact ⟨c, hIx c s A B none x (grown_of_below hb none) none_, later hb y, later hb z⟩)
    ?_ ⟨hI [] w V none h0 hgV none_, hloop, hdef⟩).mono ?_
  · rintro pre x W0 W1 ⟨hi0, hl0, hd0⟩ hb01 hpr
    have hlt0 := (Array.getElem?_eq_some_iff.1 hl0).1
    have hl1 := later hb01 hl0
    have hd1 := later hb01 hd0
    have hlt1 := (Array.getElem?_eq_some_iff.1 hl1).1
    have hi1 : I pre W1 := hI pre W0 W1 none hi0 (grown_of_below hb01 none) none_
    have hy := run_yield (P := P) (args := encs x) hl1 (by rw [hL]; exact hps x)
    rw [hL] at hy
    refine ⟨fn, _, assign, body, hy, roundIn_of_wpIn hfn (hassign _ x W1 _ ?_)⟩
    clear hy
    refine ⟨_, run_beginRound hl1 sL, ?_⟩
    obtain ⟨W, hW⟩ : ∃ W, W1.putObj (w.heap.size + 1) (.loop { L with state := .busy }) = W := ⟨_, rfl⟩
    rw [hW]
    have hg1 : W1.grownBy W (some (w.heap.size + 1)) := by rw [← hW]; exact grownBy_putObj' _ _ _
    have hl2 : W.heap[w.heap.size + 1]? = some (.loop { L with state := .busy }) := by rw [← hW]; exact World.putObj_heap_same hlt1
    have hd2 : W.heap[w.heap.size]? = some (.deferred (some [])) := (hg1.block _ (by omega) (fun e => by injection e with e; omega)).trans hd1
    have hrow : ∀ r, some (w.heap.size + 1) = some r → w.heap.size ≤ r ∧ ∃ o : Obj, W1.heap[r]? = some o ∧ o.isCells = false := fun r e => by cases e; exact ⟨by omega, _, hl1, rfl⟩
    have hi2 : I pre W := hI pre W1 W _ hi1 hg1 hrow
    have hpr2 := hPr pre x _ W1 W _ hpr hg1 (fun r e => (hrow r e).2)
    have hg0 : W0.grownBy W (some (w.heap.size + 1)) := (grown_of_below hb01 _).trans hg1
    have hTl : ∀ k, T x k → k ≠ w.heap.size + 1 := fun k hk e => by
      rcases hT pre x _ _ k hpr hk with h | h <;> omega
    refine wpIn_mono (hbody _ pre x W0 W (by omega) ⟨_, hl0⟩ hi0 hi2 hg0 hpr2) ?_
    -- how the record stands behind a body that kept it
    have shut : ∀ (c : Option Code) (Z : World), KeepsFrom w.heap.size W Z →
        (Instr.endRound (w.heap.size + 1) c).run P Z = .ok (.bool c.isNone) (Z.putObj (w.heap.size + 1) (.loop { L with state := if c.isNone then .ready else .done, pending := c })) ∧
        Z.heap[w.heap.size + 1]? = some (.loop { L with state := .busy }) ∧
        (Z.putObj (w.heap.size + 1) (.loop { L with state := if c.isNone then .ready else .done, pending := c })).heap[w.heap.size]? = some (.deferred (some [])) := fun c Z hk => by
      have hl3 := hk.same _ _ (by omega) hl2 rfl
      have hr3 := run_endRound (P := P) (r := { L with state := .busy }) c hl3
      exact ⟨hr3, hl3, (World.putObj_heap_other (by omega)).trans (hk.same _ _ (Nat.le_refl _) hd2 rfl)⟩
    have back : ∀ (c : Code) (Z : World), KeepsFrom w.heap.size W Z → Ix c (pre ++ [x]) Z → ∃ v Z', (Instr.endRound (w.heap.size + 1) (some c)).run P Z = .ok v Z' ∧ v = .bool false ∧ ∃ c, Ix c (pre ++ [x]) Z' ∧ Z'.heap[w.heap.size + 1]? = some (.loop { L with state := .done, pending := some c }) ∧ Z'.heap[w.heap.size]? = some (.deferred (some [])) := fun c Z hk hx => by
      obtain ⟨hr, hl3, hd3⟩ := shut (some c) Z hk
      exact ⟨_, _, hr, rfl, c, (hIx c).putObj _ hx (by omega) hl3 rfl, World.putObj_heap_same (Array.getElem?_eq_some_iff.1 hl3).1, hd3⟩
    rintro e a3 Z hp
    cases e with
    | normal =>
      obtain ⟨hk, hkp, hi3⟩ := hp
      obtain ⟨hr, hl3, hd3⟩ := shut none Z hk
      have hes : ({ L with state := .ready, pending := none } : Loop) = L := by rw [hL]
      refine ⟨_, _, hr, .inl ⟨rfl, ⟨hI.putObj _ hi3 (by omega) hl3 rfl, ?_, hd3⟩, ?_, fun k hTk => ?_⟩⟩
      · refine (World.putObj_heap_same (Array.getElem?_eq_some_iff.1 hl3).1).trans ?_
        exact congrArg (fun y => some (Obj.loop y)) hes
      · have := hk.size
        have := hg1.size
        have := (grownBy_putObj' Z (w.heap.size + 1) (.loop { L with state := .ready, pending := none })).size
        exact Nat.le_trans (Nat.le_trans ‹W1.heap.size ≤ W.heap.size› ‹W.heap.size ≤ Z.heap.size›) this
      · refine (World.putObj_heap_other (hTl k hTk)).trans ((hkp k hTk).trans ?_)
        rw [← hW]
        exact World.putObj_heap_other (hTl k hTk)
    | ret =>
      obtain ⟨v, Z', hr, rfl, h⟩ := back .ret Z hp.1 hp.2
      exact ⟨_, _, hr, .inr ⟨rfl, h⟩⟩
    | exit id =>
      obtain ⟨v, Z', hr, rfl, h⟩ := back (.exit id) Z hp.1 hp.2
      exact ⟨_, _, hr, .inr ⟨rfl, h⟩⟩
    | goto t =>
      obtain ⟨v, Z', hr, rfl, h⟩ := back (.goto t) Z hp.1 hp.2
      exact ⟨_, _, hr, .inr ⟨rfl, h⟩⟩
    | panic ch => exact hp.elim
    | outgrown => exact hp.elim
  · rintro e Z ⟨⟨v, rfl⟩, (⟨xs, hS, hi, hl, hd⟩ | ⟨pre, hSp, c, hi, hl, hd⟩)⟩
    · have hr := run_endLoop (P := P) hl (by rw [sL]; simp)
      rw [pL] at hr
      exact ⟨none, _, hr, hdone _ xs _ (Nat.le_refl _) hS (hI.putObj _ hi (by omega) hl rfl) ((World.putObj_heap_other (by omega)).trans hd)⟩
    · exact ⟨some c, _, run_endLoop (P := P) hl (by simp), hstop _ c pre _ (Nat.le_refl _) hSp ((hIx c).putObj _ hi (by omega) hl rfl) ((World.putObj_heap_other (by omega)).trans hd)⟩
end

end Go.Proofs.Ytkbhehnpgnilmaa

namespace Go.Proofs.Ytkbhehnpgnilmaa
open Go Go.RowKit Go.Shelf
set_option linter.unusedSimpArgs false
attribute [local go_sem] Oper.semAt_some

def lenOf : Value → Nat
  | .slice _ n _ => n
  | _ => 0
/-- the blocks that a round leaves as they are -/
def KeepT (Bs : Nat) (x : Value × List (List Int)) (k : Nat) : Prop := k = Bs ∨ x.1.ownBlock = some k
/-- what is told: the next row, in a block of its own -/
def RowPr (s : List Int) (pre : List (Value × List (List Int))) (x : Value × List (List Int)) (sz : Nat) (W : World) : Prop :=
  x.2 = rowM s pre.length ∧ pre.length < 4 ∧ W.ownsRow sz 23 32 x.1 x.2.length (ofK .u8 x.2.flatten)
theorem rowM_length (s : List Int) (n : Nat) (h : n ≤ 4) : (rowM s n).length = [8, 4, 2, 1, 0].getD n 0 := by
  have e : ∀ i, (rowM s (i + 1)).length = (rowM s i).length / 2 := fun i => pairs_length _
  have h0 : (rowM s 0).length = 8 := rowL_length _ _
  have h1 : (rowM s 1).length = 4 := by rw [e 0, h0]
  have h2 : (rowM s 2).length = 2 := by rw [e 1, h1]
  have h3 : (rowM s 3).length = 1 := by rw [e 2, h2]
  have h4 : (rowM s 4).length = 0 := by rw [e 3, h3]
  rcases (show n = 0 ∨ n = 1 ∨ n = 2 ∨ n = 3 ∨ n = 4 by omega) with rfl | rfl | rfl | rfl | rfl <;> assumption
theorem SlD.drop2 {w : World} {g o n c : Nat} {l : List (List Int)} (h : SlD w (.slice (some ⟨g, o, none⟩) n c) l) (hn : 2 ≤ n) : SlD w (.slice (some ⟨g, o + 64, none⟩) (n - 2) (c - 2)) (l.drop 2) := by
  obtain ⟨ao', c', e, h2, h3, h4⟩ := h
  simp only [Value.slice.injEq] at e
  obtain ⟨rfl, rfl, rfl⟩ := e
  refine ⟨some ⟨g, o + 64, none⟩, c - 2, by rw [List.length_drop], by rw [List.length_drop]; omega, by omega, fun h0 => ⟨g, o + 64, rfl, fun k hk => ?_⟩⟩
  rw [List.length_drop] at hk
  obtain ⟨g', o', h5, h6⟩ := h4 (by omega)
  simp only [Option.some.injEq, Addr.mk.injEq, and_true] at h5
  obtain ⟨rfl, rfl⟩ := h5
  have := h6 (k + 2) (by omega)
  rw [List.getElem_drop, show o + 64 + k * 32 = o + (k + 2) * 32 by omega]
  simpa [Nat.add_comm] using this
theorem SlD.at0 {w : World} {g o n c : Nat} {x : List Int} {l : List (List Int)} (h : SlD w (.slice (some ⟨g, o, none⟩) n c) (x :: l)) : w.rangeAt g o (ofK .u8 x) := by
  obtain ⟨ao', c', e, h2, h3, h4⟩ := h
  simp only [Value.slice.injEq] at e
  obtain ⟨rfl, _, _⟩ := e
  obtain ⟨g', o', h5, h6⟩ := h4 (by simp)
  simp only [Option.some.injEq, Addr.mk.injEq, and_true] at h5
  obtain ⟨rfl, rfl⟩ := h5
  have h7 := h6 0 (by simp)
  rw [Nat.zero_mul, Nat.add_zero] at h7
  exact h7
theorem SlD.at1 {w : World} {g o n c : Nat} {x y : List Int} {l : List (List Int)} (h : SlD w (.slice (some ⟨g, o, none⟩) n c) (x :: y :: l)) : w.rangeAt g (o + 32) (ofK .u8 y) := by
  obtain ⟨ao', c', e, h2, h3, h4⟩ := h
  simp only [Value.slice.injEq] at e
  obtain ⟨rfl, _, _⟩ := e
  obtain ⟨g', o', h5, h6⟩ := h4 (by simp)
  simp only [Option.some.injEq, Addr.mk.injEq, and_true] at h5
  obtain ⟨rfl, rfl⟩ := h5
  have h7 := h6 1 (by simp)
  rw [Nat.one_mul] at h7
  exact h7

theorem own_same {X Y : World} {base e size n : Nat} {v : Value} {xs : List Value} (h : X.ownsRow base e size v n xs) (hk : ∀ g, v.ownBlock = some g → Y.heap[g]? = X.heap[g]?) : Y.ownsRow base e size v n xs := by
  obtain ⟨h1, h2 | ⟨g, cap, C, rfl, h4, h5, h6⟩⟩ := h
  · exact ⟨h1, .inl h2⟩
  · exact ⟨h1, .inr ⟨g, cap, C, rfl, h4, by rw [hk g rfl]; exact h5, h6⟩⟩
theorem pairs_short : ∀ {l : List (List Int)}, l.length ≤ 1 → pairsM l = []
  | [], _ => rfl
  | [_], _ => by simp [pairsM]
  | _ :: _ :: _, h => by simp at h

set_option maxRecDepth 100000 in
set_option maxHeartbeats 4000000 in
theorem rows_mem (s : List Int) (hs : IsD s) (Bs : Nat) (w : World) (hb : Blk w Bs 23 (ofK .u8 s)) :
    SeqMem Fence.wide 8 Try.prog 118 #[.pointer (some ⟨Bs, 0, none⟩)] (fun x : Value × List (List Int) => #[x.1]) (KeepT Bs) (RowPr s) (fun xs => xs.map (·.2) = (List.range 4).map (rowM s)) (fun _ => True) w := fun l J Jx W hW hJ hJx hY h0 => by
  have HX := Lib.hid hs
  have HI := Lib.hid (infoD hs)
  have HB := Lib.hid (hb.below hW hb.lt)
  have HJ := Lib.hid hJ
  have HJX := Lib.hid hJx
  have HY := Lib.hid hY
  have H0 := Lib.hid h0
  clear hs hb hJ hJx hY h0
  refine callsIn_of_wp Try.func118 rfl trivial ?_ rfl
  simp only [Try.ntmps118, List.size_toArray, List.length_cons, List.length_nil, Nat.reduceAdd, Nat.reduceSub, Array.replicate_succ, Array.replicate_zero, List.push_toArray, List.append_toArray, List.nil_append, List.cons_append]
  gi_wp2
  gi_loopw [3, 9] (fun rv i wr => ∃ k : Nat, k ≤ 8 ∧ i = .int .i64 k ∧ ∃ ao cp, rv = .slice ao k cp ∧ Hid (RowI W (.slice ao k cp) (rowL (leafK s) k) wr)) (fun _ i _ => 8 - (intOf i).toNat)
  case atStart => exact ⟨0, by omega, rfl, none, 0, rfl, Lib.hid (RowI.nil W)⟩
  case round =>
    obtain ⟨k, hk, rfl, ao, cp, rfl, HR⟩ := hrel
    by_cases hlt : k < 8
    · have hk32 : (k : Int) < 8 := by omega
      have hk0 : (0 : Int) ≤ (k : Int) := by omega
      have HRX := Lib.hid (rangeW_blk (HB.out.below HR.out.bel HB.out.lt))
      obtain ⟨y, hy⟩ : ∃ y, leafS s k = y := ⟨_, rfl⟩
      have hyD : IsD y := by rw [← hy]; exact isD_leafS HX.out _
      obtain ⟨z, hz⟩ : ∃ z, keyOf y = z := ⟨_, rfl⟩
      have hzD : IsD z := by rw [← hz]; exact isD_key hyD
      have HPD := Lib.hid hyD
      have HPI := Lib.hid (infoD HPD.out)
      have HPL := Lib.hid (lenD HPD.out isD_zer)
      have HZD := Lib.hid hzD
      have HZI := Lib.hid (infoD HZD.out)
      have HZL := Lib.hid (lenD HZD.out isD_zer)
      have HYE := Lib.hid hy
      have HZE := Lib.hid hz
      have HGK := Lib.hid (show leafK s k = z by unfold leafK; rw [hy, hz])
      have HZ32 := Lib.hid (show (ofK .u8 z).length = 32 by rw [length_ofK, hzD.1])
      clear hy hz hyD hzD
      gi_wp2_with (with_reducible refine inL_load WideF.wide _ rfl 23 (.tmp 1) rfl Bs 0 rfl (ofK .u8 s) _ HRX.out Try.underlying23 rfl HI.out ?_)
      refine ⟨trivial, ?_⟩
      refine (callsIn_wide.2 (seed_ok s k wr HX.out hk0 hk32)).mono ?_
      rw [HYE.out]
      rintro e w5 ⟨rfl, hb5⟩
      have H5 := Lib.hid (HR.out.below hb5)
      clear hb5
      gi_wp2_with (first
        | ((with_reducible refine inL_alloc WideF.wide w5 rfl 23 rfl (ofK .u8 zer32) Try.zeroId ?_); intro w6 hb hbel hsz6; have H6 := Lib.hid (And.intro hb (H5.out.below hbel)); clear hb hbel hsz6)
        | ((with_reducible refine inL_store WideF.wide w6 rfl 23 (.tmp 5) (.tmp 16) rfl w5.heap.size 23 (ofK .u8 zer32) (ofK .u8 y) H6.out.1 rfl rfl HPL.out HPI.out (one_ofK _ _) ?_); intro w7 hb hc hs; have H7 := Lib.hid (show w7.rangeAt w5.heap.size 0 (ofK .u8 y) ∧ RowI W (.slice ao k cp) (rowL (leafK s) k) w7 from ⟨rangeW_blk hb, ⟨own_ch H6.out.2.row hc (fun j e hj => by have h1 : j = w5.heap.size := hj; have := (H5.out.row.lt j e).2; omega), below_ch H6.out.2.bel hc (Nat.le_refl _) (fun j hj => by have h1 : j = w5.heap.size := hj; have := H5.out.bel.size; omega)⟩⟩); clear hb hc hs)
        | (with_reducible refine inL_load WideF.wide w7 rfl 23 (.tmp 5) rfl w5.heap.size 0 rfl (ofK .u8 y) _ H7.out.1 Try.underlying23 rfl HPI.out ?_))
      refine ⟨trivial, ?_⟩
      refine (callsIn_wide.2 (key_any y w7 HPD.out)).mono ?_
      rw [HZE.out]
      rintro e w8 ⟨rfl, hb8⟩
      have H8 := Lib.hid (H7.out.2.below hb8)
      clear hb8
      gi_wp2_with (first
        | ((with_reducible refine inL_slice1 WideF.wide w8 rfl 54 (.tmp 20) rfl Try.underlying54 Try.sizeId Try.zeroId Try.id1 Try.id2 (ofK .u8 z) HZ32.out rfl ?_); intro w9 hb hbel hsz; have H9 := Lib.hid (And.intro hb (H8.out.below hbel)); clear hb hbel hsz)
        | (with_reducible refine inL_append_id WideF.wide w9 rfl (.tmp 18) (.tmp 21) rfl W.heap.size (.slice ao k cp) k (rowL (leafK s) k) rfl (by have := H9.out.2.row; rwa [rowL_length] at this) w8.heap.size z rfl H9.out.1 HZD.out (by omega) H9.out.2.bel.size ?_; intro ao2 cp2 w10 hown hgr; have H10 := Lib.hid (show RowI W (.slice ao2 (k + 1) cp2) (rowL (leafK s) (k + 1)) w10 from by rw [rowL_succ, HGK.out]; exact H9.out.2.appended (by rw [rowL_length, List.flatten_append, List.flatten_cons, List.flatten_nil, List.append_nil]; simpa using hown) hgr); clear hown hgr))
      go_roundw
      case rel => exact ⟨k + 1, by omega, by go_num, ao2, cp2, rfl, H10⟩
      case measure => simp [intOf]; omega
    · obtain rfl : k = 8 := by omega
      have HR8 := Lib.hid (show RowI W (.slice ao 8 cp) (rowM s 0) wr from HR.out)
      have HBW := Lib.hid (HB.out.below HR.out.bel HB.out.lt)
      clear HR
      gi_wp2
      gi_loopw [3] (fun rv wr => ∃ (n m : Nat) (pre : List (Value × List (List Int))) (W0 : World) (ao : Option Addr) (cp : Nat), rv = .slice ao m cp ∧ Hid (n ≤ 4 ∧ m = (rowM s n).length ∧ pre.length = n ∧ J pre W0) ∧ Hid (pre.map (·.2) = (List.range n).map (rowM s) ∧ RowI W0 (.slice ao m cp) (rowM s n) wr ∧ Blk wr Bs 23 (ofK .u8 s) ∧ Bs < W0.heap.size)) (fun rv _ => lenOf rv)
      case atStart => exact ⟨0, 8, [], W, ao, cp, rfl, Lib.hid ⟨by omega, (rowL_length _ _).symm, rfl, H0.out⟩, Lib.hid ⟨rfl, HR8.out, HBW.out, HB.out.lt⟩⟩
      case round =>
        obtain ⟨n, m, pre, W0, ao, cp, rfl, HNM, HT⟩ := hrel
        have hn := HNM.out.1
        have hm := HNM.out.2.1
        have hpn := HNM.out.2.2.1
        have hJ0 := HNM.out.2.2.2
        clear HNM
        have HJ0 := Lib.hid hJ0
        have hml := rowM_length s n hn
        rw [← hm] at hml
        clear hJ0 HR8 HBW
        by_cases h4 : n < 4
        · have hm0 : 0 < m ∧ m ≤ 8 := by
            rcases (show n = 0 ∨ n = 1 ∨ n = 2 ∨ n = 3 by omega) with rfl | rfl | rfl | rfl <;> simp at hml <;> omega
          have hmz : (0 : Int) < (m : Int) := by omega
          obtain ⟨fn, tmps, assign, body, hyl, hR⟩ := HY.out pre (.slice ao m cp, rowM s n) W0 wr HJ0.out HT.out.2.1.bel ⟨by rw [hpn], by omega, HT.out.2.1.row⟩
          have HM := Lib.hid (And.intro hm (And.intro hml hpn))
          clear hm hml hpn
          simp only at hyl
          gi_wp2
          refine hR.mono ?_
          rintro e w8 (⟨rfl, hJ8, hsz8, hk8⟩ | ⟨rfl, hJx8⟩)
          · have H8 := Lib.hid (show J (pre ++ [(.slice ao m cp, rowM s n)]) w8 ∧ Blk w8 Bs 23 (ofK .u8 s) ∧ SlD w8 (.slice ao m cp) (rowM s n) from ⟨hJ8, by unfold Blk; rw [hk8 Bs (.inl rfl)]; exact HT.out.2.2.1, SlD.of_owns (own_same HT.out.2.1.row (fun g hg => hk8 g (.inr hg))) rfl (rowM_D HX.out n)⟩)
            clear hJ8 hsz8 hk8 hyl hR
            obtain ⟨g, o, rfl⟩ : ∃ g o, ao = some ⟨g, o, none⟩ := by
              obtain ⟨a1, c1, e1, _, _, h5⟩ := H8.out.2.2
              obtain ⟨g, o, h6, _⟩ := h5 (by rw [← HM.out.1]; exact hm0.1)
              simp only [Value.slice.injEq] at e1
              exact ⟨g, o, by rw [e1.1, h6]⟩
            gi_wp2
            gi_loopw [7, 8] (fun nx lv wr => ∃ (d q : Nat) (done rem : List (List Int)) (no : Option Addr) (nc o2 c2 : Nat), nx = .slice no d nc ∧ lv = .slice (some ⟨g, o2, none⟩) q c2 ∧ Hid (d = done.length ∧ q = rem.length ∧ q ≤ 8) ∧ Hid (done ++ pairsM rem = pairsM (rowM s n) ∧ RowI w8 (.slice no d nc) done wr ∧ SlD w8 (.slice (some ⟨g, o2, none⟩) q c2) rem ∧ (∀ x ∈ rem, IsD x) ∧ d + q ≤ 8)) (fun _ lv _ => lenOf lv)
            case atStart => exact ⟨0, m, [], rowM s n, none, 0, o, cp, rfl, rfl, Lib.hid ⟨rfl, HM.out.1, hm0.2⟩, Lib.hid ⟨rfl, RowI.nil w8, H8.out.2.2, rowM_D HX.out n, by omega⟩⟩
            case round =>
              obtain ⟨d, q, done, rem, no, nc, o2, c2, rfl, rfl, HDQ3, HL⟩ := hrel
              have HDQ := Lib.hid (show d = done.length ∧ q = rem.length from ⟨HDQ3.out.1, HDQ3.out.2.1⟩)
              have hq8 := HDQ3.out.2.2
              clear HDQ3
              have hc2 : q ≤ c2 := by
                obtain ⟨a1, c1, e1, h2, _⟩ := HL.out.2.2.1
                simp only [Value.slice.injEq] at e1
                omega
              by_cases hq1 : 1 < q
              · have hq1z : (1 : Int) < (q : Int) := by omega
                have hq2 : 2 ≤ q := by omega
                have hq2z : (2 : Int) ≤ (q : Int) := by omega
                have hq0z : (0 : Int) < (q : Int) := by omega
                have hq0 : 0 < q := by omega
                obtain ⟨x, y, rest, hxy⟩ : ∃ x y rest, rem = x :: y :: rest := by
                  match rem, HDQ.out.2 with
                  | [], h => simp at h; omega
                  | [_], h => simp at h; omega
                  | x :: y :: r, _ => exact ⟨x, y, r, rfl⟩
                subst hxy
                have HXD := Lib.hid (HL.out.2.2.2.1 x (by simp))
                have HYD := Lib.hid (HL.out.2.2.2.1 y (by simp))
                have HXI := Lib.hid (infoD HXD.out)
                have HYI := Lib.hid (infoD HYD.out)
                obtain ⟨z, hz⟩ : ∃ z, joinB x y = z := ⟨_, rfl⟩
                have hzD : IsD z := by rw [← hz]; exact isD_join HXD.out HYD.out
                have HZE := Lib.hid hz
                have HZD := Lib.hid hzD
                have HZ32 := Lib.hid (show (ofK .u8 z).length = 32 by rw [length_ofK, hzD.1])
                have HS := Lib.hid (show ∀ w', Below w8.heap.size w8 w' → w'.rangeAt g o2 (ofK .u8 x) ∧ w'.rangeAt g (o2 + 32) (ofK .u8 y) from fun w' hb => ⟨rangeW_below HL.out.2.2.1.at0 hb, rangeW_below HL.out.2.2.1.at1 hb⟩)
                have H9 := Lib.hid (HL.out.2.1.below (Below.refl _ wr).drew)
                clear hz hzD
                gi_wp2
                refine wpIn_region_takes WideF.wide (no_defer rfl) (fun w' => w'.rangeAt g o2 (ofK .u8 x) ∧ w'.rangeAt g (o2 + 32) (ofK .u8 y)) [0, 1, 2, 3, 4, 5, 6] 4 (by kernel_rfl) rfl (by kernel_rfl) (by kernel_rfl) (HS.out _ H9.out.bel) ?_
                generalize wr.drew = v0 at H9 ⊢
                iterate 3 (refine' HeldL.run ?_ ?_ ?_ ?_; rotate_left 2; (simp only [List.getElem?_toArray, List.getElem?_cons_zero, List.getElem?_cons_succ]; rfl); rfl; (rintro w' ⟨k0, k1⟩; go_simp; with_reducible rfl); simp only [Act.put, List.setIfInBounds_toArray, List.set_cons_zero, List.set_cons_succ])
                refine' HeldL.run ?_ ?_ ?_ ?_; rotate_left 2; (simp only [List.getElem?_toArray, List.getElem?_cons_zero, List.getElem?_cons_succ]; rfl); rfl; (rintro w' ⟨k0, k1⟩; exact exec_load_mid rfl rfl k0 Try.underlying23 rfl HXI.out); simp only [Act.put, List.setIfInBounds_toArray, List.set_cons_zero, List.set_cons_succ]
                iterate 2 (refine' HeldL.run ?_ ?_ ?_ ?_; rotate_left 2; (simp only [List.getElem?_toArray, List.getElem?_cons_zero, List.getElem?_cons_succ]; rfl); rfl; (rintro w' ⟨k0, k1⟩; go_simp; with_reducible rfl); simp only [Act.put, List.setIfInBounds_toArray, List.set_cons_zero, List.set_cons_succ])
                refine' HeldL.run ?_ ?_ ?_ ?_; rotate_left 2; (simp only [List.getElem?_toArray, List.getElem?_cons_zero, List.getElem?_cons_succ]; rfl); rfl; (rintro w' ⟨k0, k1⟩; exact exec_load_mid rfl rfl k1 Try.underlying23 rfl HYI.out); simp only [Act.put, List.setIfInBounds_toArray, List.set_cons_zero, List.set_cons_succ]
                refine' wpAnyH_one 7 (by kernel_rfl) ?_ ?_; rotate_left; (simp only [List.getElem?_toArray, List.getElem?_cons_zero, List.getElem?_cons_succ]; rfl)
                try simp only [Act.put]
                go_wp2_with fail
                refine (join_any x y v0 HXD.out HYD.out).mono ?_
                rw [HZE.out]
                rintro e v1 ⟨rfl, hb⟩
                have H10 := Lib.hid (H9.out.below hb)
                clear hb
                try go_wp2_with fail
                refine QK.normal ⟨HS.out _ H10.out.bel, ?_⟩
                refine' wpAnyH_one 8 (by kernel_rfl) ?_ ?_; rotate_left; (simp only [List.getElem?_toArray, List.getElem?_cons_zero, List.getElem?_cons_succ]; rfl)
                refine wpList_slice_one v1 rfl 54 (.tmp 45) rfl Try.underlying54 Try.sizeId Try.zeroId Try.id1 Try.id2 (ofK .u8 z) HZ32.out rfl ?_
                intro v2 hb hbel hsz
                have H11 := Lib.hid (And.intro hb (H10.out.below hbel))
                clear hb hbel hsz
                simp only [Act.put, List.setIfInBounds_toArray, List.set_cons_zero, List.set_cons_succ]
                refine QK.normal ⟨HS.out _ H11.out.2.bel, ?_⟩
                refine' wpAnyH_one 9 (by kernel_rfl) ?_ ?_; rotate_left; (simp only [List.getElem?_toArray, List.getElem?_cons_zero, List.getElem?_cons_succ]; rfl)
                refine wpList_append_id v2 rfl (.tmp 38) (.tmp 46) rfl w8.heap.size (.slice no d nc) d done rfl (by have := H11.out.2.row; rwa [← HDQ.out.1] at this) v1.heap.size z rfl H11.out.1 HZD.out (by have := HL.out.2.2.2.2; omega) H11.out.2.bel.size ?_
                intro no2 nc2 v3 hown hgr _
                have H12 := Lib.hid (show RowI w8 (.slice no2 (d + 1) nc2) (done ++ [z]) v3 from H11.out.2.appended (by rw [← HDQ.out.1]; simpa using hown) hgr)
                clear hown hgr
                simp only [Act.put, List.setIfInBounds_toArray, List.set_cons_zero, List.set_cons_succ]
                refine QK.normal ⟨HS.out _ H12.out.bel, ?_⟩
                refine' wpAnyH_one 10 (by kernel_rfl) ?_ ?_; rotate_left; (simp only [List.getElem?_toArray, List.getElem?_cons_zero, List.getElem?_cons_succ]; rfl)
                try simp only [Act.put]
                go_wp2_with fail
                refine QK.normal ⟨HS.out _ H12.out.bel, ?_⟩
                refine wpAnyH_done (by kernel_rfl) ?_ _
                refine QN.normal ?_
                have HLD := Lib.hid (show ∀ u ∈ rest, IsD u from fun u hu => HL.out.2.2.2.1 u (by simp [hu]))
                have HEQ := Lib.hid (show (done ++ [z]) ++ pairsM rest = pairsM (rowM s n) from by rw [← HL.out.1, List.append_assoc, ← HZE.out]; rfl)
                have hq2r : q = rest.length + 2 := by have h := HDQ.out.2; rw [List.length_cons, List.length_cons] at h; exact h
                by_cases hc : c2 = 2
                · subst hc
                  obtain rfl : q = 2 := by omega
                  obtain rfl : rest = [] := List.length_eq_zero_iff.1 (by omega)
                  clear hq2r
                  gi_wp2
                  go_roundw
                  case rel => exact ⟨d + 1, 0, done ++ [z], [], no2, nc2, o2, 0, rfl, rfl, Lib.hid ⟨by rw [List.length_append, ← HDQ.out.1]; rfl, rfl, by omega⟩, Lib.hid ⟨HEQ.out, H12.out, ⟨some ⟨g, o2, none⟩, 0, rfl, Nat.le_refl _, by omega, fun h => by simp at h⟩, HLD.out, by have := HL.out.2.2.2.2; omega⟩⟩
                  case measure => simp [lenOf]
                · have HQ2 := Lib.hid hq2r
                  clear hq2r
                  gi_wp2
                  go_roundw
                  case rel => exact ⟨d + 1, q - 2, done ++ [z], rest, no2, nc2, o2 + 64, c2 - 2, rfl, by go_num, Lib.hid ⟨by rw [List.length_append, ← HDQ.out.1]; rfl, by have := HQ2.out; omega, by omega⟩, Lib.hid ⟨HEQ.out, H12.out, HL.out.2.2.1.drop2 hq2, HLD.out, by have := HL.out.2.2.2.2; omega⟩⟩
                  case measure => simp [lenOf]; omega
              · have hq1z : ¬ (1 : Int) < (q : Int) := by omega
                have hdone : done = rowM s (n + 1) := by
                  have h := HL.out.1
                  rw [pairs_short (by rw [← HDQ.out.2]; omega), List.append_nil] at h
                  exact h
                have HD1 := Lib.hid hdone
                have hd1 := rowM_length s (n + 1) (by omega)
                rw [← hdone, ← HDQ.out.1] at hd1
                have hdm : d < m := by
                  have h := HM.out.2.1
                  rcases (show n = 0 ∨ n = 1 ∨ n = 2 ∨ n = 3 by omega) with rfl | rfl | rfl | rfl <;> simp at hd1 h <;> omega
                clear hdone hd1
                gi_wp2
                go_roundw
                case rel => exact ⟨n + 1, d, pre ++ [(.slice (some ⟨g, o, none⟩) m cp, rowM s n)], w8, no, nc, ⟨rfl, rfl, rfl⟩, Lib.hid ⟨by omega, by rw [HDQ.out.1, HD1.out], by rw [List.length_append, HM.out.2.2]; rfl, H8.out.1⟩, Lib.hid ⟨by rw [List.map_append, HT.out.1, List.range_succ, List.map_append]; rfl, by rw [← HD1.out]; exact HL.out.2.1, H8.out.2.1.below HL.out.2.1.bel H8.out.2.1.lt, H8.out.2.1.lt⟩⟩
                case measure => simp [lenOf]; omega
          · gi_wp2
            exact ⟨rfl, _, results_none rfl _ _ _, ⟨_, rfl⟩, .inr ⟨_, trivial, hJx8⟩⟩
        · obtain rfl : n = 4 := by omega
          obtain rfl : m = 0 := by simpa using hml
          clear hm hml hpn
          gi_wp2
          refine ⟨(fun _ h => nomatch h), ?_⟩
          gi_wp2
          exact ⟨rfl, _, results_none rfl _ _ _, ⟨_, rfl⟩, .inl ⟨pre, HT.out.1, HJ.out pre W0 wr HJ0.out HT.out.2.1.bel⟩⟩

end Go.Proofs.Ytkbhehnpgnilmaa

namespace Go.Proofs.Ytkbhehnpgnilmaa
open Go Go.RowKit Go.Shelf
set_option linter.unusedSimpArgs false
attribute [local go_sem] Oper.semAt_some

theorem rows_any (s : List Int) (w : World) : Calls Try.prog 110 #[.agg (ofK .u8 s).toArray] w (fun e w' => e = .returned (.func (.func 118) #[] #[.pointer (some ⟨w.heap.size, 0, none⟩)]) ∧ Blk w' w.heap.size 23 (ofK .u8 s) ∧ Below w.heap.size w w') := by
  go_enter Try.func110, Try.ntmps110
  go_wp2_with (with_reducible refine wpList_box_blk w rfl 23 (.tmp 0) rfl (ofK .u8 s) rfl ?_; intro w1 hb1 hbel1 hsz1; have HB1 := Lib.hid (And.intro hb1 hbel1); clear hb1 hbel1 hsz1)
  go_ret
  exact ⟨rfl, HB1.out⟩

theorem zip1 (p : Tmp) (u : Value) : (#[p] : Array Tmp).zip #[u] = #[(p, u)] := by simp
theorem foldl1 {α β : Type} (f : β → α → β) (b : β) (x : α) : (#[x] : Array α).foldl f b = f b x := by simp
theorem rowPr_T {s : List Int} {Bs n : Nat} (hB : Bs < n) : ∀ (pre : List (Value × List (List Int))) (x : Value × List (List Int)) (sz : Nat) (W : World) (k : Nat), RowPr s pre x sz W → KeepT Bs x k → k < n ∨ sz ≤ k := fun pre x sz W k h hk => by
  rcases hk with rfl | hk
  · exact .inl hB
  · exact .inr (h.2.2.lt k hk).1
theorem rowPr_own {s : List Int} : ∀ (pre : List (Value × List (List Int))) (x : Value × List (List Int)) (sz : Nat) (A B : World) (row : Option Nat), RowPr s pre x sz A → A.grownBy B row → (∀ r, row = some r → ∃ o : Obj, A.heap[r]? = some o ∧ o.isCells = false) → RowPr s pre x sz B :=
  fun _ _ _ _ _ _ h hg hr => ⟨h.1, h.2.1, own_own h.2.2 hg hr⟩
/-- what a row that was told is: its value, its first digest -/
theorem rowPr_parts {s : List Int} {pre : List (Value × List (List Int))} {v : Value} {l : List (List Int)} {sz : Nat} {W : World} (h : RowPr s pre (v, l) sz W) (hs : IsD s) : ∃ g cp, v = .slice (some ⟨g, 0, none⟩) l.length cp ∧ sz ≤ g ∧ 0 < l.length ∧ SlD W v l ∧ (∀ x ∈ l, IsD x) ∧ l = rowM s pre.length ∧ pre.length < 4 := by
  obtain ⟨h1, h2, h3⟩ := h
  simp only at h1 h3
  have hl : 0 < l.length := by
    have := rowM_length s pre.length (by omega)
    rw [← h1] at this
    rcases (show pre.length = 0 ∨ pre.length = 1 ∨ pre.length = 2 ∨ pre.length = 3 by omega) with e | e | e | e <;> rw [e] at this <;> simp at this <;> omega
  have hD : ∀ x ∈ l, IsD x := by rw [h1]; exact rowM_D hs _
  have h5 := SlD.of_owns h3 rfl hD
  obtain ⟨_, ⟨_, h4⟩ | ⟨g, cap, C, hv, h6, _⟩⟩ := h3
  · omega
  · exact ⟨g, cap, hv, h6, hl, h5, hD, h1, h2⟩
/-- the last row's first digest -/
def hdM (pre : List (Value × List (List Int))) : List Int := match (pre.map (·.2)).getLast? with
  | none => zer32
  | some r => r.getD 0 []
theorem hdM_snoc (pre : List (Value × List (List Int))) (x : Value × List (List Int)) : hdM (pre ++ [x]) = x.2.getD 0 [] := by unfold hdM; rw [List.map_append]; simp
theorem hdM_all {s : List Int} {xs : List (Value × List (List Int))} (h : xs.map (·.2) = (List.range 4).map (rowM s)) : hdM xs = rootM s := by unfold hdM; rw [h]; rfl

structure RootI (W0 : World) (rb : Nat) (pre : List (Value × List (List Int))) (W : World) : Prop where
  box : Blk W rb 23 (ofK .u8 (hdM pre))
  dig : IsD (hdM pre)
  keep : Ch (· = rb) W0 W
theorem RootI.own (W0 : World) (rb : Nat) : OwnFrom W0.heap.size (RootI W0 rb) := fun s W W' row hs hg hr =>
  ⟨blk_own hs.box hg (fun r e => (hr r e).2), hs.dig, ⟨hg.os.trans hs.keep.os, hg.tape.trans hs.keep.tape, hg.output.trans hs.keep.output, Nat.le_trans hs.keep.size hg.size, fun k hk h => (hg.block k (Nat.lt_of_lt_of_le hk hs.keep.size) (fun e => by have := (hr k e.symm).1; omega)).trans (hs.keep.block k hk h)⟩⟩
theorem keepsFrom_ch {W W' : World} {B rb : Nat} {e : TypeId} {xs : List Value} (hc : Ch (· = rb) W W') (hb : Blk W rb e xs) : KeepsFrom B W W' :=
  ⟨hc.size, fun k o _ hk ho => (hc.block k (Array.getElem?_eq_some_iff.1 hk).1 (fun e => by
    have h1 : k = rb := e
    subst h1
    rw [blk_cells hb o hk] at ho; cases ho)).trans hk⟩

set_option maxRecDepth 100000 in
set_option maxHeartbeats 4000000 in
theorem root_any (s : List Int) (w : World) (hs : IsD s) :
    Calls Try.prog 79 #[.agg (ofK .u8 s).toArray] w (fun e w' => e = .returned (.agg (ofK .u8 (rootM s)).toArray) ∧ Below w.heap.size w w') := by
  have HX := Lib.hid hs
  have HI := Lib.hid (infoD hs)
  clear hs
  have hg := (by kernel_rfl : Try.prog.funcs[79]? = some Try.f79)
  refine callsIn_wide.1 (callsIn_of_wp_marks (F := Fence.wide) (n := 9) (fn := Try.f79) hg rfl trivial (wpIn_wide.2 ?_) rfl)
  simp only [Try.ntmps79, List.size_toArray, List.length_cons, List.length_nil, Nat.reduceAdd, Nat.reduceSub, Array.replicate_succ, Array.replicate_zero, List.push_toArray, List.append_toArray, List.nil_append, List.cons_append]
  clear hg
  go_wp2_with (first
    | (with_reducible refine wpList_box_blk w rfl 23 (.tmp 0) rfl (ofK .u8 s) rfl ?_; intro w1 hb hbel hsz; have HB1 := Lib.hid (And.intro hb (And.intro hbel hsz)); clear hb hbel hsz)
    | ((with_reducible refine wpList_alloc_blk w1 rfl 23 rfl (ofK .u8 zer32) Try.zeroId ?_); intro w2 hb hbel hsz; have HB2 := Lib.hid (PreI.mk (w := w) (HB1.out.1.below hbel HB1.out.1.lt) hb (below_thn HB1.out.2.1 hbel (Nat.le_refl _)) (by have := HB1.out.2.2; omega)); have HRX := Lib.hid (rangeW_blk HB2.out.box); clear hb hbel hsz)
    | (with_reducible refine wpList_load_any rfl 23 (.tmp 1) rfl w.heap.size 0 rfl (ofK .u8 s) _ HRX.out Try.underlying23 rfl HI.out ?_))
  refine (rows_any s w2).mono ?_
  rintro e W0 ⟨rfl, hbs, hb0⟩
  have HP := Lib.hid (HB2.out.below hb0)
  obtain ⟨rb, hrb⟩ : ∃ rb, w1.heap.size = rb := ⟨_, rfl⟩
  obtain ⟨Bs, hBs⟩ : ∃ Bs, w2.heap.size = Bs := ⟨_, rfl⟩
  have HL := Lib.hid (show Blk W0 Bs 23 (ofK .u8 s) ∧ Bs < W0.heap.size ∧ rb < Bs ∧ w.heap.size ≤ rb from ⟨by rw [← hBs]; exact hbs, by rw [← hBs]; exact hbs.lt, by rw [← hBs, ← hrb]; exact HB2.out.res.lt, by rw [← hrb]; exact HB2.out.le⟩)
  rw [hrb] at HP ⊢
  rw [hBs]
  clear hbs hb0 hBs hrb HB1 HB2 HRX
  go_wp2_with fail
  refine (wpIn_wide (n := 9)).1 ?_
  refine wpIn_range_mem (F := Fence.wide) rfl (by omega) (gf := 118) (lb := #[.pointer (some ⟨Bs, 0, none⟩)]) rfl trivial (enters_of Try.func118 (by kernel_rfl) rfl) (rows_mem s HX.out Bs W0 HL.out.1) (Below.refl _ _) (fun _ => rfl)
    (rowPr_T HL.out.2.1) rowPr_own (RootI W0 rb) (fun _ _ _ => False) (RootI.own W0 rb) (fun _ _ _ _ _ h _ _ => h) ⟨HP.out.res, isD_zer, Ch.refl _ _⟩
    (fun x => { tmps := #[.agg (ofK .u8 s).toArray, .pointer (some ⟨w.heap.size, 0, none⟩), .pointer (some ⟨rb, 0, none⟩), x.1, .agg (ofK .u8 s).toArray, .func (.func 118) #[] #[.pointer (some ⟨Bs, 0, none⟩)], x.1, undef, undef, undef, undef], defers := [] })
    ?assign ?body ?done ?stop
  case assign =>
    rintro l x W K hK
    rw [zip1, foldl1]
    simp only [List.setIfInBounds_toArray, List.set_cons_zero, List.set_cons_succ]
    gi_wp2
    exact hK
  case body =>
    rintro l pre ⟨v, r⟩ W0' W hl - hI0 hI hgr hpr
    obtain ⟨g, cp, rfl, hg, hr0, hsl, hD, hrow, hp4⟩ := rowPr_parts hpr HX.out
    obtain ⟨y, rest, rfl⟩ : ∃ y rest, r = y :: rest := by
      cases r with
      | nil => simp at hr0
      | cons y rest => exact ⟨y, rest, rfl⟩
    have HYD := Lib.hid (hD y (by simp))
    have HYI := Lib.hid (infoD HYD.out)
    have HYL := Lib.hid (lenD HYD.out hI.dig)
    have HR := Lib.hid (hsl.at0)
    have HW := Lib.hid (And.intro hI (And.intro hg (And.intro hI0.keep.size hpr)))
    obtain ⟨n, hn⟩ : ∃ n, (y :: rest).length = n := ⟨_, rfl⟩
    have hn0 : 0 < n := by rw [← hn]; exact hr0
    have hnz : (0 : Int) < (n : Int) := by omega
    have HN := Lib.hid hn
    rw [hn]
    clear hsl hD hrow hI hgr hpr hg hr0 hn hI0
    gi_wp2_with (first
      | (with_reducible refine inL_load (WideF.round l) W rfl 23 (.tmp 8) rfl g 0 rfl (ofK .u8 y) _ HR.out Try.underlying23 rfl HYI.out ?_)
      | ((with_reducible refine inL_store (WideF.round l) W rfl 23 (.tmp 2) (.tmp 9) rfl rb 23 (ofK .u8 (hdM pre)) (ofK .u8 y) HW.out.1.box rfl rfl HYL.out HYI.out (one_ofK _ _) ?_); intro W2 hb hc hs; have H2 := Lib.hid (And.intro hb hc); clear hb hc hs))
    refine ⟨keepsFrom_ch H2.out.2 HW.out.1.box, fun k hk => ?_, ⟨by rw [hdM_snoc]; exact H2.out.1, by rw [hdM_snoc]; exact HYD.out, HW.out.1.keep.trans H2.out.2⟩⟩
    have hkr : k ≠ rb := by
      rcases hk with rfl | hk
      · have := HL.out; omega
      · have h1 : some g = some k := hk
        have h2 : g = k := by simpa using h1
        have := HW.out.2.1
        have := HW.out.2.2.1
        have := HL.out
        omega
    have hkW : k < W.heap.size := by
      rcases hk with rfl | hk
      · have := HL.out.2.1; have := HW.out.1.keep.size; omega
      · exact (HW.out.2.2.2.2.2.lt k hk).2
    exact H2.out.2.block k hkW hkr
  case done =>
    rintro D xs W hD hS hI hK
    have HD := Lib.hid (And.intro hI.keep (And.intro hK (hdM_all hS)))
    have hbx := hI.box
    have hdg := hI.dig
    rw [hdM_all hS] at hbx hdg
    have HQ := Lib.hid (infoD hdg)
    have HB := Lib.hid hbx
    have HRB := Lib.hid (rangeW_blk hbx)
    clear hI hK hS hbx hdg
    go_wp2_with (first
      | (with_reducible refine wpList_load_any rfl 23 (.tmp 2) rfl rb 0 rfl (ofK .u8 (rootM s)) _ HRB.out Try.underlying23 rfl HQ.out ?_)
      | ((with_reducible refine wpList_store_blk W rfl 23 (.tmp 2) (.tmp 10) rfl rb 23 (ofK .u8 (rootM s)) (ofK .u8 (rootM s)) HB.out rfl rfl rfl HQ.out (one_ofK _ _) ?_); intro w9 hb hc hs; have H9 := Lib.hid (And.intro hb hc); clear hb hc hs))
    have hK2 : w9.heap[D]? = some (.deferred (some [])) := (H9.out.2.block D (lt_of_block HD.out.2.1) (fun e => by have e : D = rb := e; have := HL.out; omega)).trans HD.out.2.1
    try rw [Exit.noGoto_ret]
    refine ⟨by simp, .inl ⟨_, _, rfl, run_takeDeferred hK2, ?_⟩⟩
    have hb5 := blk_own H9.out.1 (grownBy_putObj' w9 D (.deferred none)) (fun r e => by cases e; exact ⟨_, hK2, rfl⟩)
    refine ⟨_, results_blk Try.results79 _ _ rb _ _ rfl hb5 _ Try.underlying23 rfl HQ.out, rfl, ?_⟩
    have hb6 : Below w.heap.size w w9 := below_ch (below_ch HP.out.bel HD.out.1 (Nat.le_refl _) (fun k hk => by have e : k = rb := hk; have := HL.out; omega)) H9.out.2 (Nat.le_refl _) (fun k hk => by have e : k = rb := hk; have := HL.out; omega)
    exact hb6.grown (grownBy_putObj' w9 D (.deferred none)) hb6.size (fun k e => by cases e; have := HL.out; omega)
  case stop =>
    rintro D c pre W _ _ h _
    exact h.elim

end Go.Proofs.Ytkbhehnpgnilmaa

namespace Go.Proofs.Ytkbhehnpgnilmaa
open Go Go.RowKit Go.Shelf
set_option linter.unusedSimpArgs false
attribute [local go_sem] Oper.semAt_some

theorem Try.infoInt : (Try.prog.info? 3).map (·.size) = some 1 := by kernel_rfl
/-- a path's parts -/
def pth (s : List Int) (n d : Nat) : List Int := (rowM s d).getD (n / 2 ^ d ^^^ 1) []
theorem pathM_row (s : List Int) (n : Nat) : rowL (pth s n) 3 = pathM s n := by simp [pathM, rowL, pth, List.range_succ]
theorem xor1 (v : Nat) (h : v < 8) : bits .xor .i64 (v : Int) 1 = ((v ^^^ 1 : Nat) : Int) := by
  rcases (show v = 0 ∨ v = 1 ∨ v = 2 ∨ v = 3 ∨ v = 4 ∨ v = 5 ∨ v = 6 ∨ v = 7 by omega) with rfl | rfl | rfl | rfl | rfl | rfl | rfl | rfl <;> decide
theorem xor1_lt (v m : Nat) (h : v < m) (h2 : m = 8 ∨ m = 4 ∨ m = 2) : v ^^^ 1 < m := by
  rcases h2 with rfl | rfl | rfl
  · rcases (show v = 0 ∨ v = 1 ∨ v = 2 ∨ v = 3 ∨ v = 4 ∨ v = 5 ∨ v = 6 ∨ v = 7 by omega) with rfl | rfl | rfl | rfl | rfl | rfl | rfl | rfl <;> decide
  · rcases (show v = 0 ∨ v = 1 ∨ v = 2 ∨ v = 3 by omega) with rfl | rfl | rfl | rfl <;> decide
  · rcases (show v = 0 ∨ v = 1 by omega) with rfl | rfl <;> decide

structure PathI (W0 : World) (lb tb : Nat) (s : List Int) (n : Nat) (pre : List (Value × List (List Int))) (W : World) : Prop where
  le : pre.length ≤ 3
  box : ∃ ao cp, Blk W lb 54 [.slice ao pre.length cp] ∧ W.ownsRow W0.heap.size 23 32 (.slice ao pre.length cp) pre.length (ofK .u8 (rowL (pth s n) pre.length).flatten)
  leaf : Blk W tb 3 [.int .i64 ((n / 2 ^ pre.length : Nat) : Int)]
  keep : Ch (fun k => k = lb ∨ k = tb) W0 W
theorem PathI.own (W0 : World) (lb tb : Nat) (s : List Int) (n : Nat) : OwnFrom W0.heap.size (PathI W0 lb tb s n) := fun pre W W' row hs hg hr => by
  obtain ⟨h0, ⟨ao, cp, h1, h2⟩, h3, h4⟩ := hs
  exact ⟨h0, ⟨ao, cp, blk_own h1 hg (fun r e => (hr r e).2), own_own h2 hg (fun r e => (hr r e).2)⟩, blk_own h3 hg (fun r e => (hr r e).2), ⟨hg.os.trans h4.os, hg.tape.trans h4.tape, hg.output.trans h4.output, Nat.le_trans h4.size hg.size, fun k hk h => (hg.block k (Nat.lt_of_lt_of_le hk h4.size) (fun e => by have := (hr k e.symm).1; omega)).trans (h4.block k hk h)⟩⟩

theorem PathI.next {W0 W v2 v3 v4 : World} {lb tb Bs d q n : Nat} {s : List Int} {pre : List (Value × List (List Int))} {x : Value × List (List Int)} {ao ao2 : Option Addr} {cp cp2 : Nat} (hI : PathI W0 lb tb s n pre W) (hd : pre.length = d) (hd3 : d < 3) (hq : n / 2 ^ d = q) (hL : tb < lb ∧ lb < W0.heap.size)
    (hbx : Blk W lb 54 [.slice ao d cp]) (hown : W.ownsRow W0.heap.size 23 32 (.slice ao d cp) d (ofK .u8 (rowL (pth s n) d).flatten)) (hT : ∀ k, KeepT Bs x k → k < W.heap.size ∧ k ≠ lb ∧ k ≠ tb ∧ (Value.slice ao d cp).ownBlock ≠ some k)
    (h2 : Ch (fun k => (Value.slice ao d cp).ownBlock = some k) W v2) (ho : v2.ownsRow W0.heap.size 23 32 (.slice ao2 (d + 1) cp2) (d + 1) (ofK .u8 (rowL (pth s n) (d + 1)).flatten)) (hb3 : Blk v3 lb 54 [.slice ao2 (d + 1) cp2]) (h3 : Ch (· = lb) v2 v3)
    (hb4 : Blk v4 tb 3 [.int .i64 ((q / 2 : Nat) : Int)]) (h4 : Ch (· = tb) v3 v4) : KeepsFrom W0.heap.size W v4 ∧ (∀ k, KeepT Bs x k → v4.heap[k]? = W.heap[k]?) ∧ PathI W0 lb tb s n (pre ++ [x]) v4 := by
  have hc : Ch (fun k => (Value.slice ao d cp).ownBlock = some k ∨ k = lb ∨ k = tb) W v4 := (h2.mono (fun _ h => .inl h)).trans ((h3.mono (fun _ h => .inr (.inl h))).trans (h4.mono (fun _ h => .inr (.inr h))))
  have hlen : (pre ++ [x]).length = d + 1 := by rw [List.length_append, hd]; rfl
  have far : ∀ k, (Value.slice ao2 (d + 1) cp2).ownBlock = some k → W0.heap.size ≤ k := fun k hk => (ho.lt k hk).1
  refine ⟨⟨hc.size, fun k o _ hk hn => (hc.block k (Array.getElem?_eq_some_iff.1 hk).1 (fun e => ?_)).trans hk⟩, fun k hk => hc.block k (hT k hk).1 (fun e => ?_), ?_⟩
  · rcases e with e | rfl | rfl
    · rw [row_cells hown k e o hk] at hn; cases hn
    · rw [blk_cells hbx o hk] at hn; cases hn
    · rw [blk_cells hI.leaf o hk] at hn; cases hn
  · obtain ⟨_, h5, h6, h7⟩ := hT k hk
    rcases e with e | e | e
    · exact h7 e
    · exact h5 e
    · exact h6 e
  refine ⟨by omega, ⟨ao2, cp2, ?_, ?_⟩, ?_, ⟨hc.os.trans hI.keep.os, hc.tape.trans hI.keep.tape, hc.output.trans hI.keep.output, Nat.le_trans hI.keep.size hc.size, fun k hk hs => (hc.block k (Nat.lt_of_lt_of_le hk hI.keep.size) (fun e => ?_)).trans (hI.keep.block k hk hs)⟩⟩
  · rw [hlen]; exact hb3.keep h4 (fun e => by have e : lb = tb := e; omega)
  · rw [hlen]; exact own_ch (own_ch ho h3 (fun k hk e => by have := far k hk; have e : k = lb := e; omega)) h4 (fun k hk e => by have := far k hk; have e : k = tb := e; omega)
  · rw [hlen, Nat.pow_succ, ← Nat.div_div_eq_div_mul, hq]; exact hb4
  · rcases e with e | e
    · have := (hown.lt k e).1; omega
    · exact hs e

set_option maxRecDepth 100000 in
theorem path_bad (s : List Int) (n : Int) (w : World) (h : ¬ (0 ≤ n ∧ n < 8)) :
    Calls Try.prog 81 #[.agg (ofK .u8 s).toArray, .int .i64 n] w (fun e w' => e = .returned (.tuple #[.slice none 0 0, .int .i64 2]) ∧ Below w.heap.size w w') := by
  have HH := Lib.hid h
  clear h
  have hg := (by kernel_rfl : Try.prog.funcs[81]? = some Try.f81)
  refine callsIn_wide.1 (callsIn_of_wp_marks (F := Fence.wide) (n := 9) (fn := Try.f81) hg rfl trivial (wpIn_wide.2 ?_) rfl)
  simp only [Try.ntmps81, List.size_toArray, List.length_cons, List.length_nil, Nat.reduceAdd, Nat.reduceSub, Array.replicate_succ, Array.replicate_zero, List.push_toArray, List.append_toArray, List.nil_append, List.cons_append]
  clear hg
  go_wp2_with (with_reducible refine wpList_box_blk w rfl 23 (.tmp 0) rfl (ofK .u8 s) rfl ?_; intro w1 hb hbel hsz; have HB1 := Lib.hid (And.intro hb (And.intro hbel hsz)); clear hb hbel hsz)
  go_step3
  go_wp2_with fail
  refine (leafed_bad n _ HH.out).mono ?_
  rintro e w2 ⟨rfl, h2⟩
  have H2 := Lib.hid (show Below w.heap.size w w2 from by rw [← h2]; exact HB1.out.2.1.alloc (by have := HB1.out.2.2; omega) _)
  clear h2
  go_wp2_with fail
  rw [Exit.noGoto_ret]
  exact ⟨_, results_tmp2 Try.results81 _ _ _, rfl, H2.out⟩

set_option maxRecDepth 100000 in
set_option maxHeartbeats 4000000 in
theorem path_ok (s : List Int) (n : Nat) (w : World) (hs : IsD s) (hn : n < 8) :
    Calls Try.prog 81 #[.agg (ofK .u8 s).toArray, .int .i64 n] w (fun e w' => ∃ ao c, e = .returned (.tuple #[.slice ao 3 c, .int .i64 0]) ∧ w'.ownsRow w.heap.size 23 32 (.slice ao 3 c) 3 (ofK .u8 (pathM s n).flatten) ∧ Below w.heap.size w w') := by
  have HX := Lib.hid hs
  have HI := Lib.hid (infoD hs)
  have HN8 := Lib.hid hn
  clear hs hn
  have hg := (by kernel_rfl : Try.prog.funcs[81]? = some Try.f81)
  refine callsIn_wide.1 (callsIn_of_wp_marks (F := Fence.wide) (n := 9) (fn := Try.f81) hg rfl trivial (wpIn_wide.2 ?_) rfl)
  simp only [Try.ntmps81, List.size_toArray, List.length_cons, List.length_nil, Nat.reduceAdd, Nat.reduceSub, Array.replicate_succ, Array.replicate_zero, List.push_toArray, List.append_toArray, List.nil_append, List.cons_append]
  clear hg
  go_wp2_with (with_reducible refine wpList_box_blk w rfl 23 (.tmp 0) rfl (ofK .u8 s) rfl ?_; intro w1 hb hbel hsz; have HB1 := Lib.hid (And.intro hb (And.intro hbel hsz)); clear hb hbel hsz)
  go_step3
  go_wp2_with fail
  refine (leafed_ok n _ (by omega) (by have := HN8.out; omega)).mono ?_
  rintro e w2 ⟨rfl, h2⟩
  have hz1 := HB1.out.2.2
  have hz2 : w2.heap.size = w1.heap.size + 1 := by rw [← h2, World.size_alloc]
  have HB2 := Lib.hid (show Blk w2 w.heap.size 23 (ofK .u8 s) ∧ Blk w2 w1.heap.size 3 [.int .i64 n] ∧ Below w.heap.size w w2 from by
    rw [← h2]
    have hb := (Below.refl w1.heap.size w1).alloc (Nat.le_refl _) (.cells #[.int .i64 n] 3)
    exact ⟨HB1.out.1.below hb HB1.out.1.lt, Blk.new _ _ _, below_thn HB1.out.2.1 hb (Nat.le_refl _)⟩)
  obtain ⟨w3, hw3⟩ : ∃ w3, w2.alloc (.cells #[.slice none 0 0] 54) = w3 := ⟨_, rfl⟩
  have hz3 : w3.heap.size = w2.heap.size + 1 := by rw [← hw3, World.size_alloc]
  have HB3 := Lib.hid (show Blk w3 w.heap.size 23 (ofK .u8 s) ∧ Blk w3 w1.heap.size 3 [.int .i64 n] ∧ Blk w3 w2.heap.size 54 [.slice none 0 0] ∧ Below w.heap.size w w3 from by
    rw [← hw3]
    have hb := (Below.refl w2.heap.size w2).alloc (Nat.le_refl _) (.cells #[.slice none 0 0] 54)
    exact ⟨HB2.out.1.below hb HB2.out.1.lt, HB2.out.2.1.below hb HB2.out.2.1.lt, Blk.new _ _ _, below_thn HB2.out.2.2 hb (Nat.le_refl _)⟩)
  have HRX := Lib.hid (rangeW_blk HB3.out.1)
  have HW3 := Lib.hid hw3
  have HZ := Lib.hid (And.intro hz1 (And.intro hz2 hz3))
  clear h2 hw3 hz1 hz2 hz3
  go_wp2_with fail
  go_step3
  go_wp2_with (with_reducible refine wpList_load_any rfl 23 (.tmp 2) rfl w.heap.size 0 rfl (ofK .u8 s) _ (by rw [HW3.out]; exact HRX.out) Try.underlying23 rfl HI.out ?_)
  rw [HW3.out]
  refine (rows_any s w3).mono ?_
  rintro e W0 ⟨rfl, hbs, hb0⟩
  obtain ⟨tb, htb⟩ : ∃ tb, w1.heap.size = tb := ⟨_, rfl⟩
  obtain ⟨lb, hlb⟩ : ∃ lb, w2.heap.size = lb := ⟨_, rfl⟩
  obtain ⟨Bs, hBs⟩ : ∃ Bs, w3.heap.size = Bs := ⟨_, rfl⟩
  have HL := Lib.hid (show w.heap.size < tb ∧ tb < lb ∧ lb < Bs ∧ Bs < W0.heap.size from by have := HZ.out; have := hbs.lt; omega)
  have HB0 := Lib.hid (show Blk W0 tb 3 [.int .i64 n] ∧ Blk W0 lb 54 [.slice none 0 0] ∧ Blk W0 Bs 23 (ofK .u8 s) ∧ Below w.heap.size w W0 from by
    rw [← htb, ← hlb, ← hBs]
    exact ⟨HB3.out.2.1.below hb0 HB3.out.2.1.lt, HB3.out.2.2.1.below hb0 HB3.out.2.2.1.lt, hbs, below_thn HB3.out.2.2.2 hb0 (Nat.le_refl _)⟩)
  rw [htb, hlb, hBs]
  clear hbs hb0 htb hlb hBs HZ HW3 HRX HB1 HB2 HB3
  go_wp2_with fail
  refine (wpIn_wide (n := 9)).1 ?_
  refine wpIn_range_mem (F := Fence.wide) rfl (by omega) (gf := 118) (lb := #[.pointer (some ⟨Bs, 0, none⟩)]) rfl trivial (enters_of Try.func118 (by kernel_rfl) rfl) (rows_mem s HX.out Bs W0 HB0.out.2.2.1) (Below.refl _ _) (fun _ => rfl)
    (rowPr_T HL.out.2.2.2) rowPr_own (PathI W0 lb tb s n) (fun c pre W => c = .exit 0 ∧ ∃ q, q.length = 3 ∧ PathI W0 lb tb s n q W) (PathI.own W0 lb tb s n)
    (fun c pre W W' row h hg hr => by obtain ⟨h1, q, h2, h3⟩ := h; exact ⟨h1, q, h2, PathI.own W0 lb tb s n q W W' row h3 hg hr⟩)
    ⟨by simp, ⟨none, 0, HB0.out.2.1, World.ownsRow_nil _ _ _ _⟩, by simpa using HB0.out.1, Ch.refl _ _⟩
    (fun x => { tmps := #[.agg (ofK .u8 s).toArray, .int .i64 n, .pointer (some ⟨w.heap.size, 0, none⟩), .pointer (some ⟨tb, 0, none⟩), .slice none 0 0, .int .i64 0, .pointer (some ⟨lb, 0, none⟩), x.1, .int .i64 n, .bool true, .bool false, .agg (ofK .u8 s).toArray, .func (.func 118) #[] #[.pointer (some ⟨Bs, 0, none⟩)], x.1, undef, undef, undef, undef, undef, undef, undef, undef, undef, undef, undef, undef, undef, undef], defers := [] })
    ?assign ?body ?done ?stop
  case assign =>
    rintro l x W K hK
    rw [zip1, foldl1]
    simp only [List.setIfInBounds_toArray, List.set_cons_zero, List.set_cons_succ]
    gi_wp2
    exact hK
  case body =>
    rintro l pre ⟨v, r⟩ W0' W hl hlr hI0 hI hgr hpr
    have hrow : ∀ z, some l = some z → ∃ o : Obj, W0'.heap[z]? = some o ∧ o.isCells = false := fun z e => by cases e; obtain ⟨rr, h⟩ := hlr; exact ⟨_, h, rfl⟩
    obtain ⟨g, rcp, rfl, hg, hr0, hsl, hD, hrw, hp4⟩ := rowPr_parts hpr HX.out
    obtain ⟨ao, cp, hbx0, hown0⟩ := hI0.box
    have hbx := blk_own hbx0 hgr hrow
    have hown := own_own hown0 hgr hrow
    have hlf := hI.leaf
    have hle := hI.le
    have HPR := Lib.hid (And.intro hpr (And.intro hg (And.intro hgr.size hrw)))
    obtain ⟨d, hd⟩ : ∃ d, pre.length = d := ⟨_, rfl⟩
    rw [hd] at hbx hown hlf hle hown0 hrw
    have hcl := hbx.cell 0
    simp only [List.getElem?_cons_zero] at hcl
    by_cases h3 : d = 3
    · subst h3
      gi_wp2
      exact ⟨KeepsFrom.refl _ _, rfl, pre, hd, hI⟩
    · have hd3 : d < 3 := by omega
      have hd3z : ((d : Int) == 3) = false := by simp; omega
      obtain ⟨q, hq⟩ : ∃ q, n / 2 ^ d = q := ⟨_, rfl⟩
      rw [hq] at hlf
      have hlen := rowM_length s d (by omega)
      rw [← hrw] at hlen
      have hqd : q < r.length ∧ (r.length = 8 ∨ r.length = 4 ∨ r.length = 2) := by
        have h8 := HN8.out
        rcases (show d = 0 ∨ d = 1 ∨ d = 2 by omega) with rfl | rfl | rfl <;> simp at hlen hq <;> omega
      have hq8 : q < 8 := by omega
      have hxl := xor1_lt q _ hqd.1 hqd.2
      have hx1 := xor1 q hq8
      have hxz : ((q ^^^ 1 : Nat) : Int) < (r.length : Int) := by omega
      have hx0 : (0 : Int) ≤ ((q ^^^ 1 : Nat) : Int) := by omega
      obtain ⟨ao1, c1, e1, _, _, hcell⟩ := hsl
      obtain ⟨g1, o1, e2, hcell⟩ := hcell hr0
      simp only [Value.slice.injEq, true_and] at e1
      obtain ⟨rfl, rfl⟩ := e1
      simp only [Option.some.injEq, Addr.mk.injEq, and_true] at e2
      obtain ⟨rfl, rfl⟩ := e2
      have hcx := hcell (q ^^^ 1) hxl
      rw [Nat.zero_add] at hcx
      have hyp : pth s n d = r[q ^^^ 1] := by unfold pth; rw [hq, ← hrw, List.getD_eq_getElem?_getD, List.getElem?_eq_getElem hxl]; rfl
      have hyD := hD _ (List.getElem_mem hxl)
      generalize r[q ^^^ 1] = y at hcx hyp hyD
      have HYD := Lib.hid hyD
      have HYI := Lib.hid (infoD hyD)
      have HY32 := Lib.hid (show (ofK .u8 y).length = 32 by rw [length_ofK, hyD.1])
      have HPE := Lib.hid hyp
      have hlfc := hlf.cell 0
      simp only [List.getElem?_cons_zero] at hlfc
      have HW := Lib.hid hI
      have HO := Lib.hid (And.intro hown0 hown)
      have HBX := Lib.hid hbx
      have HTB := Lib.hid hlf
      have HG := Lib.hid (show lb < g ∧ tb < g by have := HPR.out.2.1; have := hI0.keep.size; have := HL.out; omega)
      have HNE := Lib.hid (show ∀ k, (Value.slice ao d cp).ownBlock = some k → lb ≠ k ∧ tb ≠ k from fun k hk => by have := (hown0.lt k hk).1; have := HL.out; omega)
      have HNG := Lib.hid (show ∀ k, (Value.slice ao d cp).ownBlock = some k → g ≠ k ∧ Bs ≠ k from fun k hk => by have h5 := hown0.lt k hk; have := HPR.out.2.1; have := HL.out; omega)
      have HS := Lib.hid (show ∀ w', Below W.heap.size W w' → w'.cell? ⟨tb, 0, none⟩ = some (.int .i64 (q : Int)) ∧ w'.rangeAt g ((q ^^^ 1) * 32) (ofK .u8 y) from fun w' hb => ⟨(hb.cell (p := ⟨tb, 0, none⟩) (block_of_cell hlfc)).trans hlfc, rangeW_below hcx hb⟩)
      have HS2 := Lib.hid (show ∀ w', Ch (fun k => (Value.slice ao d cp).ownBlock = some k) W w' → w'.cell? ⟨tb, 0, none⟩ = some (.int .i64 (q : Int)) ∧ w'.rangeAt g ((q ^^^ 1) * 32) (ofK .u8 y) from fun w' hc => ⟨(hc.cell (p := ⟨tb, 0, none⟩) (block_of_cell hlfc) (fun e => (HNE.out tb e).2 rfl)).trans hlfc, rangeW_ch hcx hc (fun e => (HNG.out g e).1 rfl)⟩)
      have HFIN := Lib.hid (show ∀ (v2 v3 v4 : World) (ao2 : Option Addr) (cp2 : Nat), Ch (fun k => (Value.slice ao d cp).ownBlock = some k) W v2 → v2.ownsRow W0.heap.size 23 32 (.slice ao2 (d + 1) cp2) (d + 1) (ofK .u8 (rowL (pth s n) (d + 1)).flatten) → Blk v3 lb 54 [.slice ao2 (d + 1) cp2] → Ch (· = lb) v2 v3 → Blk v4 tb 3 [.int .i64 ((q / 2 : Nat) : Int)] → Ch (· = tb) v3 v4 →
        KeepsFrom W0.heap.size W v4 ∧ (∀ k, KeepT Bs (.slice (some ⟨g, 0, none⟩) r.length rcp, r) k → v4.heap[k]? = W.heap[k]?) ∧ PathI W0 lb tb s n (pre ++ [(.slice (some ⟨g, 0, none⟩) r.length rcp, r)]) v4 from fun v2 v3 v4 ao2 cp2 k2 k3 k4 k5 k6 k7 =>
        hI.next hd hd3 hq (by have := HL.out; omega) hbx hown (fun k hk => by
          rcases hk with rfl | hk
          · have := HL.out
            exact ⟨by have := hI.keep.size; omega, by omega, by omega, fun e => (HNG.out k e).2 rfl⟩
          · have e : g = k := by simpa [Value.ownBlock] using hk
            subst e
            exact ⟨(HPR.out.1.2.2.lt g rfl).2, by have := HG.out; omega, by have := HG.out; omega, fun e => (HNG.out g e).1 rfl⟩) k2 k3 k4 k5 k6 k7)
      have H10 := Lib.hid ((Below.refl W.heap.size W).drew)
      have HCL := Lib.hid hcl
      obtain ⟨m, hm⟩ : ∃ m, r.length = m := ⟨_, rfl⟩
      rw [hm] at hxl hxz HFIN ⊢
      clear hcx hyp hyD hlfc hlf hbx hown hown0 hbx0 hcell hqd hq hm hrw hD hlen hI hI0 hpr hgr hg hr0 hrow hle hp4
      gi_wp2
      clear hcl
      refine wpIn_region_takes (WideF.round l) (no_defer rfl) (fun w' => w'.cell? ⟨tb, 0, none⟩ = some (.int .i64 (q : Int)) ∧ w'.rangeAt g ((q ^^^ 1) * 32) (ofK .u8 y)) [1, 2, 3, 4, 5] 4 (by kernel_rfl) rfl (by kernel_rfl) (by kernel_rfl) (HS.out _ H10.out) ?_
      have hcl0 : W.drew.cell? ⟨lb, 0, none⟩ = some (.slice ao d cp) := HCL.out
      have HB0' := Lib.hid (show Blk W.drew lb 54 [.slice ao d cp] from HBX.out.below (Below.refl _ W).drew HBX.out.lt)
      generalize W.drew = v0 at H10 hcl0 HB0' ⊢
      iterate 4 (refine' HeldL.run ?_ ?_ ?_ ?_; rotate_left 2; (simp only [List.getElem?_toArray, List.getElem?_cons_zero, List.getElem?_cons_succ]; rfl); rfl; (rintro w' ⟨k0, k1⟩; go_simp; with_reducible rfl); simp only [Act.put, List.setIfInBounds_toArray, List.set_cons_zero, List.set_cons_succ])
      refine' HeldL.run ?_ ?_ ?_ ?_; rotate_left 2; (simp only [List.getElem?_toArray, List.getElem?_cons_zero, List.getElem?_cons_succ]; rfl); rfl; (rintro w' ⟨k0, k1⟩; exact exec_load_mid rfl rfl k1 Try.underlying23 rfl HYI.out); simp only [Act.put, List.setIfInBounds_toArray, List.set_cons_zero, List.set_cons_succ]
      refine' wpAnyH_two 0 6 (by kernel_rfl) ?_ ?_ ?_ ?_; rotate_left 2; (simp only [List.getElem?_toArray, List.getElem?_cons_zero, List.getElem?_cons_succ]; rfl); (simp only [List.getElem?_toArray, List.getElem?_cons_zero, List.getElem?_cons_succ]; rfl)
      · skip
        skip
        try simp only [Act.put]
        go_wp2_with fail
        refine QK.normal ⟨HS.out _ H10.out, ?_⟩
        clear hcl0
        refine' wpAnyH_one 6 (by kernel_rfl) ?_ ?_; rotate_left; (simp only [List.getElem?_toArray, List.getElem?_cons_zero, List.getElem?_cons_succ]; rfl)
        refine wpList_slice_one v0 rfl 54 (.tmp 22) rfl Try.underlying54 Try.sizeId Try.zeroId Try.id1 Try.id2 (ofK .u8 y) HY32.out rfl ?_
        intro v1 hb hbel hsz
        have H11 := Lib.hid (And.intro hb (below_thn H10.out hbel (Nat.le_refl _)))
        clear hb hbel hsz
        simp only [Act.put, List.setIfInBounds_toArray, List.set_cons_zero, List.set_cons_succ]
        refine QK.normal ⟨HS.out _ H11.out.2, ?_⟩
        refine' wpAnyH_one 7 (by kernel_rfl) ?_ ?_; rotate_left; (simp only [List.getElem?_toArray, List.getElem?_cons_zero, List.getElem?_cons_succ]; rfl)
        refine wpList_append_id v1 rfl (.tmp 17) (.tmp 23) rfl W0.heap.size (.slice ao d cp) d (rowL (pth s n) d) rfl (own_ch HO.out.2 (Ch.of_below (S := fun _ => False) H11.out.2 (Nat.le_refl _)) (fun _ _ h => h)) v0.heap.size y rfl H11.out.1 HYD.out (by omega) (by have := H11.out.2.size; have := HW.out.keep.size; omega) ?_
        intro ao2 cp2 v2 hown hgr2 _
        have HSW := Lib.hid (show Ch (fun k => (Value.slice ao d cp).ownBlock = some k) W v2 from (Ch.of_below (S := fun k => (Value.slice ao d cp).ownBlock = some k) H11.out.2 (Nat.le_refl _)).trans (ch_grown hgr2))
        have H12 := Lib.hid (show v2.ownsRow W0.heap.size 23 32 (.slice ao2 (d + 1) cp2) (d + 1) (ofK .u8 (rowL (pth s n) (d + 1)).flatten) from by rw [rowL_succ, HPE.out]; simpa using hown)
        have hsv := HS2.out _ HSW.out
        clear hown hgr2
        simp only [Act.put, List.setIfInBounds_toArray, List.set_cons_zero, List.set_cons_succ]
        refine QK.normal ⟨hsv, ?_⟩
        refine' wpAnyH_one 8 (by kernel_rfl) ?_ ?_; rotate_left; (simp only [List.getElem?_toArray, List.getElem?_cons_zero, List.getElem?_cons_succ]; rfl)
        have HB3 := Lib.hid (HBX.out.keep HSW.out (fun e => (HNE.out lb e).1 rfl))
        refine wpList_store1 v2 rfl 54 (.tmp 6) (.tmp 24) rfl lb 0 54 [.slice ao d cp] HB3.out rfl (.slice ao2 (d + 1) cp2) rfl (by simp) Try.infoIds rfl rfl ?_
        intro v3 hb hc hs
        have H13 := Lib.hid (show Blk v3 lb 54 [.slice ao2 (d + 1) cp2] ∧ Ch (· = lb) v2 v3 from ⟨hb, hc⟩)
        have hsv3 : v3.cell? ⟨tb, 0, none⟩ = some (.int .i64 (q : Int)) ∧ v3.rangeAt g ((q ^^^ 1) * 32) (ofK .u8 y) := ⟨(hc.cell (p := ⟨tb, 0, none⟩) (block_of_cell hsv.1) (fun e => by have e : tb = lb := e; have := HL.out; omega)).trans hsv.1, rangeW_ch hsv.2 hc (fun e => by have e : g = lb := e; have := HG.out; have := HL.out; omega)⟩
        clear hb hc hs hsv
        simp only [Act.put, List.setIfInBounds_toArray, List.set_cons_zero, List.set_cons_succ]
        refine QK.normal ⟨hsv3, ?_⟩
        refine wpAnyH_done (by kernel_rfl) ?_ _
        refine QN.normal ?_
        have hcx := hsv3.1
        clear hsv3
        have HT3 := Lib.hid (((HTB.out.keep HSW.out (fun e => (HNE.out tb e).2 rfl))).keep H13.out.2 (fun e => by have e : tb = lb := e; have := HL.out; omega))
        gi_wp2_with ((with_reducible refine inL_store1 (WideF.round l) v3 rfl 3 (.tmp 3) (.tmp 26) rfl tb 0 3 [.int .i64 (q : Int)] HT3.out rfl (.int .i64 ((q / 2 : Nat) : Int)) rfl (by simp) Try.infoInt rfl rfl ?_); intro v4 hb hc hs; have H14 := Lib.hid (show Blk v4 tb 3 [.int .i64 ((q / 2 : Nat) : Int)] ∧ Ch (· = tb) v3 v4 from ⟨hb, hc⟩); clear hb hc hs)
        exact HFIN.out _ _ _ _ _ HSW.out H12.out H13.out.1 H13.out.2 H14.out.1 H14.out.2
      · skip
        clear hcl0
        skip
        refine wpList_slice_one v0 rfl 54 (.tmp 22) rfl Try.underlying54 Try.sizeId Try.zeroId Try.id1 Try.id2 (ofK .u8 y) HY32.out rfl ?_
        intro v1 hb hbel hsz
        have H11 := Lib.hid (And.intro hb (below_thn H10.out hbel (Nat.le_refl _)))
        clear hb hbel hsz
        simp only [Act.put, List.setIfInBounds_toArray, List.set_cons_zero, List.set_cons_succ]
        refine QK.normal ⟨HS.out _ H11.out.2, ?_⟩
        have hcl1 := (HBX.out.below H11.out.2 HBX.out.lt).cell 0
        simp only [List.getElem?_cons_zero] at hcl1
        refine' wpAnyH_one 0 (by kernel_rfl) ?_ ?_; rotate_left; (simp only [List.getElem?_toArray, List.getElem?_cons_zero, List.getElem?_cons_succ]; rfl)
        try simp only [Act.put]
        go_wp2_with fail
        refine QK.normal ⟨HS.out _ H11.out.2, ?_⟩
        clear hcl1
        refine' wpAnyH_one 7 (by kernel_rfl) ?_ ?_; rotate_left; (simp only [List.getElem?_toArray, List.getElem?_cons_zero, List.getElem?_cons_succ]; rfl)
        refine wpList_append_id v1 rfl (.tmp 17) (.tmp 23) rfl W0.heap.size (.slice ao d cp) d (rowL (pth s n) d) rfl (own_ch HO.out.2 (Ch.of_below (S := fun _ => False) H11.out.2 (Nat.le_refl _)) (fun _ _ h => h)) v0.heap.size y rfl H11.out.1 HYD.out (by omega) (by have := H11.out.2.size; have := HW.out.keep.size; omega) ?_
        intro ao2 cp2 v2 hown hgr2 _
        have HSW := Lib.hid (show Ch (fun k => (Value.slice ao d cp).ownBlock = some k) W v2 from (Ch.of_below (S := fun k => (Value.slice ao d cp).ownBlock = some k) H11.out.2 (Nat.le_refl _)).trans (ch_grown hgr2))
        have H12 := Lib.hid (show v2.ownsRow W0.heap.size 23 32 (.slice ao2 (d + 1) cp2) (d + 1) (ofK .u8 (rowL (pth s n) (d + 1)).flatten) from by rw [rowL_succ, HPE.out]; simpa using hown)
        have hsv := HS2.out _ HSW.out
        clear hown hgr2
        simp only [Act.put, List.setIfInBounds_toArray, List.set_cons_zero, List.set_cons_succ]
        refine QK.normal ⟨hsv, ?_⟩
        refine' wpAnyH_one 8 (by kernel_rfl) ?_ ?_; rotate_left; (simp only [List.getElem?_toArray, List.getElem?_cons_zero, List.getElem?_cons_succ]; rfl)
        have HB3 := Lib.hid (HBX.out.keep HSW.out (fun e => (HNE.out lb e).1 rfl))
        refine wpList_store1 v2 rfl 54 (.tmp 6) (.tmp 24) rfl lb 0 54 [.slice ao d cp] HB3.out rfl (.slice ao2 (d + 1) cp2) rfl (by simp) Try.infoIds rfl rfl ?_
        intro v3 hb hc hs
        have H13 := Lib.hid (show Blk v3 lb 54 [.slice ao2 (d + 1) cp2] ∧ Ch (· = lb) v2 v3 from ⟨hb, hc⟩)
        have hsv3 : v3.cell? ⟨tb, 0, none⟩ = some (.int .i64 (q : Int)) ∧ v3.rangeAt g ((q ^^^ 1) * 32) (ofK .u8 y) := ⟨(hc.cell (p := ⟨tb, 0, none⟩) (block_of_cell hsv.1) (fun e => by have e : tb = lb := e; have := HL.out; omega)).trans hsv.1, rangeW_ch hsv.2 hc (fun e => by have e : g = lb := e; have := HG.out; have := HL.out; omega)⟩
        clear hb hc hs hsv
        simp only [Act.put, List.setIfInBounds_toArray, List.set_cons_zero, List.set_cons_succ]
        refine QK.normal ⟨hsv3, ?_⟩
        refine wpAnyH_done (by kernel_rfl) ?_ _
        refine QN.normal ?_
        have hcx := hsv3.1
        clear hsv3
        have HT3 := Lib.hid (((HTB.out.keep HSW.out (fun e => (HNE.out tb e).2 rfl))).keep H13.out.2 (fun e => by have e : tb = lb := e; have := HL.out; omega))
        gi_wp2_with ((with_reducible refine inL_store1 (WideF.round l) v3 rfl 3 (.tmp 3) (.tmp 26) rfl tb 0 3 [.int .i64 (q : Int)] HT3.out rfl (.int .i64 ((q / 2 : Nat) : Int)) rfl (by simp) Try.infoInt rfl rfl ?_); intro v4 hb hc hs; have H14 := Lib.hid (show Blk v4 tb 3 [.int .i64 ((q / 2 : Nat) : Int)] ∧ Ch (· = tb) v3 v4 from ⟨hb, hc⟩); clear hb hc hs)
        exact HFIN.out _ _ _ _ _ HSW.out H12.out H13.out.1 H13.out.2 H14.out.1 H14.out.2
  case done =>
    rintro D xs W hD hS hI hK
    have h1 := congrArg List.length hS
    rw [List.length_map, List.length_map, List.length_range] at h1
    have := hI.le
    omega
  case stop =>
    rintro D c pre W hD - ⟨rfl, q, hq, hI⟩ hK
    obtain ⟨-, ⟨ao, cp, hbx, hown⟩, -, hkp⟩ := hI
    rw [hq] at hbx hown
    rw [pathM_row] at hown
    have hcl := hbx.cell 0
    simp only [List.getElem?_cons_zero] at hcl
    have HF := Lib.hid (And.intro hown (And.intro hkp hK))
    clear hown hkp hK hbx hq
    refine wpIn_wide.2 ?_
    go_wp2_with fail
    try rw [Exit.noGoto_ret]
    have hK2 := HF.out.2.2
    have hg2 := grownBy_putObj' W D (.deferred none)
    have hr2 : ∀ z, some D = some z → ∃ o : Obj, W.heap[z]? = some o ∧ o.isCells = false := fun z e => by cases e; exact ⟨_, hK2, rfl⟩
    have hb6 : Below w.heap.size w W := below_ch HB0.out.2.2.2 HF.out.2.1 (Nat.le_refl _) (fun k hk => by rcases hk with rfl | rfl <;> (have := HL.out; omega))
    refine ⟨by simp, .inl ⟨_, _, rfl, run_takeDeferred hK2, ?_⟩⟩
    refine ⟨_, results_tmp2 Try.results81 _ _ _, ao, cp, rfl, ownsRow_base (own_own HF.out.1 hg2 hr2) HB0.out.2.2.2.size, ?_⟩
    exact hb6.grown hg2 hb6.size (fun k e => by cases e; have := HB0.out.2.2.2.size; omega)

end Go.Proofs.Ytkbhehnpgnilmaa
