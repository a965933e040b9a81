/-
  Package wots: Start, Step and Chain, walked. Conditions: bytes, ints.
-/
import Derived.Test.YtkbhehnpgnilmaaWtA
namespace Go.Proofs.Ytkbhehnpgnilmaa
open Go Go.RowKit
set_option linter.unusedSimpArgs false

def stepB (x : List Int) (c n : Int) : List Int := sumL (digB 67 [c, n] [x])
def startB (x : List Int) (c : Int) : List Int := sumL (digB 83 [c] [x])
/-- k steps from a on -/
def walkB (x : List Int) (c a : Int) : Nat → List Int
  | 0 => x
  | k + 1 => stepB (walkB x c a k) c (a + k)

theorem all1 {α : Type} {P : α → Prop} {x : α} (h : P x) : ∀ y ∈ [x], P y := fun _ hy => (List.mem_singleton.1 hy) ▸ h
theorem all2 {α : Type} {P : α → Prop} {x y : α} (h : P x) (k : P y) : ∀ z ∈ [x, y], P z := fun z hz => by
  simp only [List.mem_cons, List.not_mem_nil, or_false] at hz
  rcases hz with rfl | rfl
  · exact h
  · exact k
theorem isD_step {x : List Int} (h : IsD x) (c n : Int) : IsD (stepB x c n) := isD_sum (digB_allB (by omega) (all1 h))
theorem isD_start {x : List Int} (h : IsD x) (c : Int) : IsD (startB x c) := isD_sum (digB_allB (by omega) (all1 h))
theorem Try.sizeId : ∀ w, (sizeOf 23).run Try.prog w = .ok 32 w := fun w => by kernel_rfl
theorem Try.id1 : 0 < 32 := by omega
theorem Try.id2 : 32 ≤ 16777216 := by omega
theorem Try.buildId (w : World) : (Instr.build 23 #[]).run Try.prog w = .ok (.agg (ofK .u8 zer32).toArray) w := by kernel_rfl
theorem isD_walk {x : List Int} (h : IsD x) (c a : Int) : ∀ k, IsD (walkB x c a k)
  | 0 => h
  | k + 1 => isD_step (isD_walk h c a k) _ _

theorem slD_one {w : World} {g : Nat} {x : List Int} (h : Blk w g 23 (ofK .u8 x)) : SlD w (.slice (some ⟨g, 0, none⟩) 1 1) [x] :=
  ⟨some ⟨g, 0, none⟩, 1, rfl, Nat.le_refl _, by omega, fun _ => ⟨g, 0, rfl, fun k hk => by
    obtain rfl : k = 0 := by simpa using hk
    exact rangeW_blk h⟩⟩

theorem chained_any (n : Int) (w : World) : Calls Try.prog 104 #[.int .i64 n] w (fun e w' => e = .returned (.bool (decide (0 ≤ n) && decide (n < 67))) ∧ w = w') := by
  by_cases h0 : 0 ≤ n
  · by_cases h1 : n < 67
    · have e : (decide (0 ≤ n) && decide (n < 67)) = true := by simp [h0, h1]
      rw [e]; clear e
      go_enter Try.func104, Try.ntmps104
      go_wp2
      go_ret
      exact ⟨rfl, rfl⟩
    · have e : (decide (0 ≤ n) && decide (n < 67)) = false := by simp [h1]
      rw [e]; clear e
      go_enter Try.func104, Try.ntmps104
      go_wp2
      go_ret
      exact ⟨rfl, rfl⟩
  · have e : (decide (0 ≤ n) && decide (n < 67)) = false := by simp [h0]
    rw [e]; clear e
    go_enter Try.func104, Try.ntmps104
    go_wp2
    go_ret
    exact ⟨rfl, rfl⟩
theorem chained_of (n : Int) (b : Bool) (w : World) (h : (decide (0 ≤ n) && decide (n < 67)) = b) : Calls Try.prog 104 #[.int .i64 n] w (fun e w' => e = .returned (.bool b) ∧ w = w') := by
  subst h; exact chained_any n w

/-- a digest and an error -/
def DigP (w : World) (x : List Int) (m : Int) (e : Ending) (w' : World) : Prop := e = .returned (.tuple #[.agg (ofK .u8 x).toArray, .int .i64 m]) ∧ Below w.heap.size w w'

set_option maxRecDepth 100000 in
set_option maxHeartbeats 4000000 in
theorem start_ok (x : List Int) (c : Int) (w : World) (hx : IsD x) (h0 : 0 ≤ c) (h1 : c < 67) :
    Calls Try.prog 51 #[.agg (ofK .u8 x).toArray, .int .i64 c] w (DigP w (startB x c) 0) := by
  have HS := Lib.hid (isD_start hx c)
  have HSI := Lib.hid (infoD HS.out)
  have HSL := Lib.hid (lenD HS.out isD_zer)
  have HX := Lib.hid hx
  have HI := Lib.hid (infoD hx)
  have HLx := Lib.hid (show (ofK .u8 x).length = 32 by rw [length_ofK, hx.1])
  clear hx
  go_enter Try.func51, Try.ntmps51
  go_wp2_with (first
    | (with_reducible refine wpList_box_blk w rfl 23 (.tmp 0) rfl (ofK .u8 x) rfl ?_; intro w1 hb1 hbel1 hsz1; have HB1 := Lib.hid (And.intro hb1 (And.intro hbel1 hsz1)); clear hb1 hbel1 hsz1)
    | ((with_reducible refine wpList_alloc_blk w1 rfl 23 rfl (ofK .u8 zer32) Try.zeroId ?_); intro w2 hb hbel hsz; have HB2 := Lib.hid (And.intro hb (And.intro (HB1.out.1.below hbel HB1.out.1.lt) (And.intro (below_thn HB1.out.2.1 hbel (Nat.le_refl _)) (show w.heap.size < w1.heap.size ∧ w1.heap.size < w2.heap.size by have := HB1.out.2.2; omega)))); clear hb hbel hsz))
  refine (chained_of c true w2 (by simp [h0, h1])).mono ?_
  rintro e w' ⟨rfl, rfl⟩
  have HRX := Lib.hid (show ∀ o, (w2.alloc o).rangeAt w.heap.size 0 (ofK .u8 x) from fun o => rangeW_below (rangeW_blk HB2.out.2.1) ((Below.refl _ w2).alloc (Nat.le_refl _) o))
  go_wp2_with (first
    | (with_reducible refine wpList_load_any rfl 23 (.tmp 2) rfl w.heap.size 0 rfl (ofK .u8 x) _ (HRX.out _) Try.underlying23 rfl HI.out ?_)
    | ((with_reducible refine wpList_slice_one (w2.alloc (.cells #[.int .i64 c] 3)) rfl 54 (.tmp 12) rfl Try.underlying54 Try.sizeId Try.zeroId Try.id1 Try.id2 (ofK .u8 x) HLx.out rfl ?_); intro w4 hb hbel hsz; have H4 := Lib.hid (show SlD w4 (.slice (some ⟨(w2.alloc (.cells #[.int .i64 c] 3)).heap.size, 0, none⟩) 1 1) [x] ∧ Below w2.heap.size w2 w4 ∧ Sl w4 (.slice (some ⟨w2.heap.size, 0, none⟩) 1 1) (ofK .i64 [c]) from ⟨slD_one hb, below_thn ((Below.refl _ w2).alloc (Nat.le_refl _) _) hbel (by simp), (sl_new w2 .i64 [c] 3 _ 1 rfl rfl (by omega)).below hbel (Nat.le_refl _)⟩); clear hb hbel hsz))
  (try rw [World.size_alloc]); (try rw [World.size_alloc] at H4)
  refine (digest_any 83 _ [c] _ [x] w4 (by omega) H4.out.2.2 (by simp) (all1 (P := fun y => 0 ≤ y ∧ y ≤ 1000) ⟨h0, by omega⟩) H4.out.1 (by simp) (all1 HX.out)).mono ?_
  rintro e w5 ⟨rfl, hb5⟩
  have H5 := Lib.hid (show Blk w5 w1.heap.size 23 (ofK .u8 zer32) ∧ Below w.heap.size w w5 from ⟨(HB2.out.1.below H4.out.2.1 HB2.out.1.lt).below hb5 (by have := H4.out.2.1.size; have := HB2.out.1.lt; omega), below_thn (below_thn HB2.out.2.2.1 H4.out.2.1 (Nat.le_refl _)) hb5 (Nat.le_refl _)⟩)
  clear hb5
  go_wp2_with ((with_reducible refine wpList_store_blk w5 rfl 23 (.tmp 4) (.tmp 14) rfl w1.heap.size 23 (ofK .u8 zer32) (ofK .u8 (startB x c)) H5.out.1 rfl rfl HSL.out HSI.out (one_ofK _ _) ?_); intro w6 hb hc hs; have H6 := Lib.hid (And.intro hb hc); clear hb hc hs)
  refine bodyPost_ret (results_cellTmp Try.results51 _ _ w1.heap.size _ _ rfl H6.out.1 _ Try.underlying23 rfl HSI.out _ rfl) rfl ⟨rfl, ?_⟩
  exact below_ch H5.out.2 H6.out.2 (Nat.le_refl _) (fun k hk => by have : k = w1.heap.size := hk; have := HB2.out.2.2.2; omega)

set_option maxRecDepth 100000 in
set_option maxHeartbeats 4000000 in
theorem step_ok (x : List Int) (c n : Int) (w : World) (hx : IsD x) (h0 : 0 ≤ c) (h1 : c < 67) (h2 : 0 ≤ n) (h3 : n < 15) :
    Calls Try.prog 52 #[.agg (ofK .u8 x).toArray, .int .i64 c, .int .i64 n] w (DigP w (stepB x c n) 0) := by
  have HS := Lib.hid (isD_step hx c n)
  have HSI := Lib.hid (infoD HS.out)
  have HSL := Lib.hid (lenD HS.out isD_zer)
  have HX := Lib.hid hx
  have HI := Lib.hid (infoD hx)
  have HLx := Lib.hid (show (ofK .u8 x).length = 32 by rw [length_ofK, hx.1])
  clear hx
  go_enter Try.func52, Try.ntmps52
  go_wp2_with (first
    | (with_reducible refine wpList_box_blk w rfl 23 (.tmp 0) rfl (ofK .u8 x) rfl ?_; intro w1 hb1 hbel1 hsz1; have HB1 := Lib.hid (And.intro hb1 (And.intro hbel1 hsz1)); clear hb1 hbel1 hsz1)
    | ((with_reducible refine wpList_alloc_blk w1 rfl 23 rfl (ofK .u8 zer32) Try.zeroId ?_); intro w2 hb hbel hsz; have HB2 := Lib.hid (And.intro hb (And.intro (HB1.out.1.below hbel HB1.out.1.lt) (And.intro (below_thn HB1.out.2.1 hbel (Nat.le_refl _)) (show w.heap.size < w1.heap.size ∧ w1.heap.size < w2.heap.size by have := HB1.out.2.2; omega)))); clear hb hbel hsz))
  refine (chained_of c true w2 (by simp [h0, h1])).mono ?_
  rintro e w' ⟨rfl, rfl⟩
  have HRX := Lib.hid (show ∀ o, (w2.alloc o).rangeAt w.heap.size 0 (ofK .u8 x) from fun o => rangeW_below (rangeW_blk HB2.out.2.1) ((Below.refl _ w2).alloc (Nat.le_refl _) o))
  go_wp2_with (first
    | (with_reducible refine wpList_load_any rfl 23 (.tmp 3) rfl w.heap.size 0 rfl (ofK .u8 x) _ (HRX.out _) Try.underlying23 rfl HI.out ?_)
    | ((with_reducible refine wpList_slice_one (w2.alloc (.cells #[.int .i64 c, .int .i64 n] 3)) rfl 54 (.tmp 23) rfl Try.underlying54 Try.sizeId Try.zeroId Try.id1 Try.id2 (ofK .u8 x) HLx.out rfl ?_); intro w4 hb hbel hsz; have H4 := Lib.hid (show SlD w4 (.slice (some ⟨(w2.alloc (.cells #[.int .i64 c, .int .i64 n] 3)).heap.size, 0, none⟩) 1 1) [x] ∧ Below w2.heap.size w2 w4 ∧ Sl w4 (.slice (some ⟨w2.heap.size, 0, none⟩) 2 2) (ofK .i64 [c, n]) from ⟨slD_one hb, below_thn ((Below.refl _ w2).alloc (Nat.le_refl _) _) hbel (by simp), (sl_new w2 .i64 [c, n] 3 _ 2 rfl rfl (by omega)).below hbel (Nat.le_refl _)⟩); clear hb hbel hsz))
  (try rw [World.size_alloc]); (try rw [World.size_alloc] at H4)
  refine (digest_any 67 _ [c, n] _ [x] w4 (by omega) H4.out.2.2 (by simp) (all2 (P := fun y => 0 ≤ y ∧ y ≤ 1000) ⟨h0, by omega⟩ ⟨h2, by omega⟩) H4.out.1 (by simp) (all1 HX.out)).mono ?_
  rintro e w5 ⟨rfl, hb5⟩
  have H5 := Lib.hid (show Blk w5 w1.heap.size 23 (ofK .u8 zer32) ∧ Below w.heap.size w w5 from ⟨(HB2.out.1.below H4.out.2.1 HB2.out.1.lt).below hb5 (by have := H4.out.2.1.size; have := HB2.out.1.lt; omega), below_thn (below_thn HB2.out.2.2.1 H4.out.2.1 (Nat.le_refl _)) hb5 (Nat.le_refl _)⟩)
  clear hb5
  go_wp2_with ((with_reducible refine wpList_store_blk w5 rfl 23 (.tmp 6) (.tmp 25) rfl w1.heap.size 23 (ofK .u8 zer32) (ofK .u8 (stepB x c n)) H5.out.1 rfl rfl HSL.out HSI.out (one_ofK _ _) ?_); intro w6 hb hc hs; have H6 := Lib.hid (And.intro hb hc); clear hb hc hs)
  refine bodyPost_ret (results_cellTmp Try.results52 _ _ w1.heap.size _ _ rfl H6.out.1 _ Try.underlying23 rfl HSI.out _ rfl) rfl ⟨rfl, ?_⟩
  exact below_ch H5.out.2 H6.out.2 (Nat.le_refl _) (fun k hk => by have : k = w1.heap.size := hk; have := HB2.out.2.2.2; omega)

set_option maxRecDepth 100000 in
set_option maxHeartbeats 4000000 in
theorem start_bad (x : List Int) (c : Int) (w : World) (hx : IsD x) (h : ¬ (0 ≤ c ∧ c < 67)) :
    Calls Try.prog 51 #[.agg (ofK .u8 x).toArray, .int .i64 c] w (DigP w zer32 2) := by
  have HZI := Lib.hid (infoD isD_zer)
  have HH := Lib.hid h
  clear h
  have HX := Lib.hid hx
  have HI := Lib.hid (infoD hx)
  have HLx := Lib.hid (show (ofK .u8 x).length = 32 by rw [length_ofK, hx.1])
  clear hx
  go_enter Try.func51, Try.ntmps51
  go_wp2_with (first
    | (with_reducible refine wpList_box_blk w rfl 23 (.tmp 0) rfl (ofK .u8 x) rfl ?_; intro w1 hb1 hbel1 hsz1; have HB1 := Lib.hid (And.intro hb1 (And.intro hbel1 hsz1)); clear hb1 hbel1 hsz1)
    | ((with_reducible refine wpList_alloc_blk w1 rfl 23 rfl (ofK .u8 zer32) Try.zeroId ?_); intro w2 hb hbel hsz; have HB2 := Lib.hid (And.intro hb (And.intro (HB1.out.1.below hbel HB1.out.1.lt) (And.intro (below_thn HB1.out.2.1 hbel (Nat.le_refl _)) (show w.heap.size < w1.heap.size ∧ w1.heap.size < w2.heap.size by have := HB1.out.2.2; omega)))); clear hb hbel hsz))
  obtain ⟨b, hb⟩ : ∃ b, (decide (0 ≤ c) && decide (c < 67)) = b := ⟨_, rfl⟩
  refine (chained_of c b w2 hb).mono ?_
  rintro e w' ⟨rfl, rfl⟩
  cases b with
  | false =>
    clear hb
    go_wp2_with (first
      | (with_reducible refine wpList_build_want rfl 23 #[] rfl #[] rfl (.agg (ofK .u8 zer32).toArray) (Try.buildId _) ?_)
      | ((with_reducible refine wpList_store_blk w2 rfl 23 (.tmp 4) (.tmp 9) rfl w1.heap.size 23 (ofK .u8 zer32) (ofK .u8 zer32) HB2.out.1 rfl rfl rfl HZI.out (one_ofK _ _) ?_); intro w6 hb hc hs; have H6 := Lib.hid (And.intro hb hc); clear hb hc hs))
    refine bodyPost_ret (results_cellTmp Try.results51 _ _ w1.heap.size _ _ rfl H6.out.1 _ Try.underlying23 rfl HZI.out _ rfl) rfl ⟨rfl, ?_⟩
    exact below_ch HB2.out.2.2.1 H6.out.2 (Nat.le_refl _) (fun k hk => by have : k = w1.heap.size := hk; have := HB2.out.2.2.2; omega)
  | true =>
    have hc : 0 ≤ c ∧ c < 67 := by simpa using hb
    have hc0 := hc.1
    have hc1 := hc.2
    have h := HH.out
    clear hb hc
    exact absurd ⟨hc0, hc1⟩ h

set_option maxRecDepth 100000 in
set_option maxHeartbeats 4000000 in
theorem step_bad (x : List Int) (c n : Int) (w : World) (hx : IsD x) (h : ¬ ((0 ≤ c ∧ c < 67) ∧ 0 ≤ n ∧ n < 15)) :
    Calls Try.prog 52 #[.agg (ofK .u8 x).toArray, .int .i64 c, .int .i64 n] w (DigP w zer32 2) := by
  have HZI := Lib.hid (infoD isD_zer)
  have HH := Lib.hid h
  clear h
  have HX := Lib.hid hx
  have HI := Lib.hid (infoD hx)
  have HLx := Lib.hid (show (ofK .u8 x).length = 32 by rw [length_ofK, hx.1])
  clear hx
  go_enter Try.func52, Try.ntmps52
  go_wp2_with (first
    | (with_reducible refine wpList_box_blk w rfl 23 (.tmp 0) rfl (ofK .u8 x) rfl ?_; intro w1 hb1 hbel1 hsz1; have HB1 := Lib.hid (And.intro hb1 (And.intro hbel1 hsz1)); clear hb1 hbel1 hsz1)
    | ((with_reducible refine wpList_alloc_blk w1 rfl 23 rfl (ofK .u8 zer32) Try.zeroId ?_); intro w2 hb hbel hsz; have HB2 := Lib.hid (And.intro hb (And.intro (HB1.out.1.below hbel HB1.out.1.lt) (And.intro (below_thn HB1.out.2.1 hbel (Nat.le_refl _)) (show w.heap.size < w1.heap.size ∧ w1.heap.size < w2.heap.size by have := HB1.out.2.2; omega)))); clear hb hbel hsz))
  obtain ⟨b, hb⟩ : ∃ b, (decide (0 ≤ c) && decide (c < 67)) = b := ⟨_, rfl⟩
  refine (chained_of c b w2 hb).mono ?_
  rintro e w' ⟨rfl, rfl⟩
  cases b with
  | false =>
    clear hb
    go_wp2_with (first
      | (with_reducible refine wpList_build_want rfl 23 #[] rfl #[] rfl (.agg (ofK .u8 zer32).toArray) (Try.buildId _) ?_)
      | ((with_reducible refine wpList_store_blk w2 rfl 23 (.tmp 6) (.tmp 19) rfl w1.heap.size 23 (ofK .u8 zer32) (ofK .u8 zer32) HB2.out.1 rfl rfl rfl HZI.out (one_ofK _ _) ?_); intro w6 hb hc hs; have H6 := Lib.hid (And.intro hb hc); clear hb hc hs))
    refine bodyPost_ret (results_cellTmp Try.results52 _ _ w1.heap.size _ _ rfl H6.out.1 _ Try.underlying23 rfl HZI.out _ rfl) rfl ⟨rfl, ?_⟩
    exact below_ch HB2.out.2.2.1 H6.out.2 (Nat.le_refl _) (fun k hk => by have : k = w1.heap.size := hk; have := HB2.out.2.2.2; omega)
  | true =>
    have hc : 0 ≤ c ∧ c < 67 := by simpa using hb
    have hc0 := hc.1
    have hc1 := hc.2
    have h := HH.out
    clear hb hc
    by_cases h0 : n < 0
    · clear h
      go_wp2_with (first
        | (with_reducible refine wpList_build_want rfl 23 #[] rfl #[] rfl (.agg (ofK .u8 zer32).toArray) (Try.buildId _) ?_)
        | ((with_reducible refine wpList_store_blk w2 rfl 23 (.tmp 6) (.tmp 19) rfl w1.heap.size 23 (ofK .u8 zer32) (ofK .u8 zer32) HB2.out.1 rfl rfl rfl HZI.out (one_ofK _ _) ?_); intro w6 hb hc hs; have H6 := Lib.hid (And.intro hb hc); clear hb hc hs))
      refine bodyPost_ret (results_cellTmp Try.results52 _ _ w1.heap.size _ _ rfl H6.out.1 _ Try.underlying23 rfl HZI.out _ rfl) rfl ⟨rfl, ?_⟩
      exact below_ch HB2.out.2.2.1 H6.out.2 (Nat.le_refl _) (fun k hk => by have : k = w1.heap.size := hk; have := HB2.out.2.2.2; omega)
    · have h1 : 15 ≤ n := by omega
      clear h
      go_wp2_with (first
        | (with_reducible refine wpList_build_want rfl 23 #[] rfl #[] rfl (.agg (ofK .u8 zer32).toArray) (Try.buildId _) ?_)
        | ((with_reducible refine wpList_store_blk w2 rfl 23 (.tmp 6) (.tmp 19) rfl w1.heap.size 23 (ofK .u8 zer32) (ofK .u8 zer32) HB2.out.1 rfl rfl rfl HZI.out (one_ofK _ _) ?_); intro w6 hb hc hs; have H6 := Lib.hid (And.intro hb hc); clear hb hc hs))
      refine bodyPost_ret (results_cellTmp Try.results52 _ _ w1.heap.size _ _ rfl H6.out.1 _ Try.underlying23 rfl HZI.out _ rfl) rfl ⟨rfl, ?_⟩
      exact below_ch HB2.out.2.2.1 H6.out.2 (Nat.le_refl _) (fun k hk => by have : k = w1.heap.size := hk; have := HB2.out.2.2.2; omega)

set_option maxRecDepth 100000 in
set_option maxHeartbeats 4000000 in
theorem chain_ok (x : List Int) (c a b : Int) (w : World) (hx : IsD x) (h0 : 0 ≤ c) (h1 : c < 67) (ha : 0 ≤ a) (hab : a ≤ b) (hb : b ≤ 15) :
    Calls Try.prog 53 #[.agg (ofK .u8 x).toArray, .int .i64 c, .int .i64 a, .int .i64 b] w (DigP w (walkB x c a (b - a).toNat) 0) := by
  have HX := Lib.hid hx
  have HI := Lib.hid (infoD hx)
  have HLx := Lib.hid (show (ofK .u8 x).length = 32 by rw [length_ofK, hx.1])
  clear hx
  go_enter Try.func53, Try.ntmps53
  go_wp2_with (first
    | (with_reducible refine wpList_box_blk w rfl 23 (.tmp 0) rfl (ofK .u8 x) rfl ?_; intro w1 hb1 hbel1 hsz1; have HB1 := Lib.hid (And.intro hb1 (And.intro hbel1 hsz1)); clear hb1 hbel1 hsz1)
    | ((with_reducible refine wpList_alloc_blk w1 rfl 23 rfl (ofK .u8 zer32) Try.zeroId ?_); intro w2 hb hbel hsz; have HB2 := Lib.hid (And.intro hb (And.intro (HB1.out.1.below hbel HB1.out.1.lt) (And.intro (below_thn HB1.out.2.1 hbel (Nat.le_refl _)) (show w.heap.size < w1.heap.size ∧ w1.heap.size < w2.heap.size by have := HB1.out.2.2; omega)))); clear hb hbel hsz))
  refine (chained_of c true w2 (by simp [h0, h1])).mono ?_
  rintro e w' ⟨rfl, rfl⟩
  have ha15 : ¬ a < 0 := by omega
  have hab' : ¬ b < a := by omega
  have hb' : ¬ 15 < b := by omega
  go_wp2_with fail
  go_loopw [10] (fun i wr => ∃ k : Nat, (k : Int) ≤ b - a ∧ i = .int .i64 (a + k) ∧ Hid (Blk wr w.heap.size 23 (ofK .u8 (walkB x c a k)) ∧ Blk wr w1.heap.size 23 (ofK .u8 zer32) ∧ Below w.heap.size w wr)) (fun i _ => (b - intOf i).toNat)
  case atStart => exact ⟨0, by omega, by simp, Lib.hid ⟨HB2.out.2.1, HB2.out.1, HB2.out.2.2.1⟩⟩
  case round =>
    obtain ⟨k, hk, rfl, HR⟩ := hrel
    have HW := Lib.hid (isD_walk HX.out c a k)
    have HIW := Lib.hid (infoD HW.out)
    by_cases hlt : a + k < b
    · have hk0 : 0 ≤ a + (k : Int) := by omega
      have hk1 : a + (k : Int) < 15 := by omega
      have HRW := Lib.hid (rangeW_blk HR.out.1)
      have HWn := Lib.hid (isD_walk HX.out c a (k + 1))
      have HIn := Lib.hid (infoD HWn.out)
      have HLn := Lib.hid (lenD HWn.out HW.out)
      go_wp2_with (with_reducible refine wpList_load_any rfl 23 (.tmp 4) rfl w.heap.size 0 rfl (ofK .u8 (walkB x c a k)) _ HRW.out Try.underlying23 rfl HIW.out ?_)
      refine (step_ok (walkB x c a k) c (a + k) wr HW.out h0 h1 hk0 hk1).mono ?_
      rintro e w5 ⟨rfl, hb5⟩
      have H5 := Lib.hid (And.intro (HR.out.1.below hb5 HR.out.1.lt) (And.intro (HR.out.2.1.below hb5 HR.out.2.1.lt) (below_thn HR.out.2.2 hb5 (Nat.le_refl _))))
      clear hb5 HR
      go_wp2_with ((with_reducible refine wpList_store_blk w5 rfl 23 (.tmp 4) (.tmp 39) rfl w.heap.size 23 (ofK .u8 (walkB x c a k)) (ofK .u8 (walkB x c a (k + 1))) H5.out.1 rfl rfl HLn.out HIn.out (one_ofK _ _) ?_); intro w6 hb hc hs; have H6 := Lib.hid (And.intro hb hc); clear hb hc hs)
      go_roundw
      case rel => exact ⟨k + 1, by omega, by go_num, Lib.hid ⟨H6.out.1, H5.out.2.1.keep H6.out.2 (fun (e : w1.heap.size = w.heap.size) => by have := HB2.out.2.2.2; omega), below_ch H5.out.2.2 H6.out.2 (Nat.le_refl _) (fun k hk => by have : k = w.heap.size := hk; omega)⟩⟩
      case measure => simp [intOf]; omega
    · have hkb : (b - a).toNat = k := by omega
      rw [hkb]
      have HLw := Lib.hid (lenD HW.out isD_zer)
      have HRW := Lib.hid (rangeW_blk HR.out.1)
      go_wp2_with (first
        | (with_reducible refine wpList_load_any rfl 23 (.tmp 4) rfl w.heap.size 0 rfl (ofK .u8 (walkB x c a k)) _ HRW.out Try.underlying23 rfl HIW.out ?_)
        | ((with_reducible refine wpList_store_blk wr rfl 23 (.tmp 8) (.tmp 41) rfl w1.heap.size 23 (ofK .u8 zer32) (ofK .u8 (walkB x c a k)) HR.out.2.1 rfl rfl HLw.out HIW.out (one_ofK _ _) ?_); intro w6 hb hc hs; have H6 := Lib.hid (And.intro hb hc); clear hb hc hs))
      refine bodyPost_ret (results_cellTmp Try.results53 _ _ w1.heap.size _ _ rfl H6.out.1 _ Try.underlying23 rfl HIW.out _ rfl) rfl ⟨rfl, ?_⟩
      exact below_ch HR.out.2.2 H6.out.2 (Nat.le_refl _) (fun k hk => by have : k = w1.heap.size := hk; have := HB2.out.2.2.2; omega)

set_option maxRecDepth 100000 in
set_option maxHeartbeats 4000000 in
theorem chain_bad (x : List Int) (c a b2 : Int) (w : World) (hx : IsD x) (h : ¬ ((0 ≤ c ∧ c < 67) ∧ 0 ≤ a ∧ a ≤ b2 ∧ b2 ≤ 15)) :
    Calls Try.prog 53 #[.agg (ofK .u8 x).toArray, .int .i64 c, .int .i64 a, .int .i64 b2] w (DigP w zer32 2) := by
  have HZI := Lib.hid (infoD isD_zer)
  have HH := Lib.hid h
  clear h
  have HX := Lib.hid hx
  have HI := Lib.hid (infoD hx)
  have HLx := Lib.hid (show (ofK .u8 x).length = 32 by rw [length_ofK, hx.1])
  clear hx
  go_enter Try.func53, Try.ntmps53
  go_wp2_with (first
    | (with_reducible refine wpList_box_blk w rfl 23 (.tmp 0) rfl (ofK .u8 x) rfl ?_; intro w1 hb1 hbel1 hsz1; have HB1 := Lib.hid (And.intro hb1 (And.intro hbel1 hsz1)); clear hb1 hbel1 hsz1)
    | ((with_reducible refine wpList_alloc_blk w1 rfl 23 rfl (ofK .u8 zer32) Try.zeroId ?_); intro w2 hb hbel hsz; have HB2 := Lib.hid (And.intro hb (And.intro (HB1.out.1.below hbel HB1.out.1.lt) (And.intro (below_thn HB1.out.2.1 hbel (Nat.le_refl _)) (show w.heap.size < w1.heap.size ∧ w1.heap.size < w2.heap.size by have := HB1.out.2.2; omega)))); clear hb hbel hsz))
  obtain ⟨b, hb⟩ : ∃ b, (decide (0 ≤ c) && decide (c < 67)) = b := ⟨_, rfl⟩
  refine (chained_of c b w2 hb).mono ?_
  rintro e w' ⟨rfl, rfl⟩
  cases b with
  | false =>
    clear hb
    go_wp2_with (first
      | (with_reducible refine wpList_build_want rfl 23 #[] rfl #[] rfl (.agg (ofK .u8 zer32).toArray) (Try.buildId _) ?_)
      | ((with_reducible refine wpList_store_blk w2 rfl 23 (.tmp 8) (.tmp 27) rfl w1.heap.size 23 (ofK .u8 zer32) (ofK .u8 zer32) HB2.out.1 rfl rfl rfl HZI.out (one_ofK _ _) ?_); intro w6 hb hc hs; have H6 := Lib.hid (And.intro hb hc); clear hb hc hs))
    refine bodyPost_ret (results_cellTmp Try.results53 _ _ w1.heap.size _ _ rfl H6.out.1 _ Try.underlying23 rfl HZI.out _ rfl) rfl ⟨rfl, ?_⟩
    exact below_ch HB2.out.2.2.1 H6.out.2 (Nat.le_refl _) (fun k hk => by have : k = w1.heap.size := hk; have := HB2.out.2.2.2; omega)
  | true =>
    have hc : 0 ≤ c ∧ c < 67 := by simpa using hb
    have hc0 := hc.1
    have hc1 := hc.2
    have h := HH.out
    clear hb hc
    by_cases h0 : a < 0
    · clear h
      go_wp2_with (first
        | (with_reducible refine wpList_build_want rfl 23 #[] rfl #[] rfl (.agg (ofK .u8 zer32).toArray) (Try.buildId _) ?_)
        | ((with_reducible refine wpList_store_blk w2 rfl 23 (.tmp 8) (.tmp 27) rfl w1.heap.size 23 (ofK .u8 zer32) (ofK .u8 zer32) HB2.out.1 rfl rfl rfl HZI.out (one_ofK _ _) ?_); intro w6 hb hc hs; have H6 := Lib.hid (And.intro hb hc); clear hb hc hs))
      refine bodyPost_ret (results_cellTmp Try.results53 _ _ w1.heap.size _ _ rfl H6.out.1 _ Try.underlying23 rfl HZI.out _ rfl) rfl ⟨rfl, ?_⟩
      exact below_ch HB2.out.2.2.1 H6.out.2 (Nat.le_refl _) (fun k hk => by have : k = w1.heap.size := hk; have := HB2.out.2.2.2; omega)
    · by_cases h1 : b2 < a
      · clear h
        go_wp2_with (first
          | (with_reducible refine wpList_build_want rfl 23 #[] rfl #[] rfl (.agg (ofK .u8 zer32).toArray) (Try.buildId _) ?_)
          | ((with_reducible refine wpList_store_blk w2 rfl 23 (.tmp 8) (.tmp 27) rfl w1.heap.size 23 (ofK .u8 zer32) (ofK .u8 zer32) HB2.out.1 rfl rfl rfl HZI.out (one_ofK _ _) ?_); intro w6 hb hc hs; have H6 := Lib.hid (And.intro hb hc); clear hb hc hs))
        refine bodyPost_ret (results_cellTmp Try.results53 _ _ w1.heap.size _ _ rfl H6.out.1 _ Try.underlying23 rfl HZI.out _ rfl) rfl ⟨rfl, ?_⟩
        exact below_ch HB2.out.2.2.1 H6.out.2 (Nat.le_refl _) (fun k hk => by have : k = w1.heap.size := hk; have := HB2.out.2.2.2; omega)
      · have h2 : 15 < b2 := by omega
        clear h
        go_wp2_with (first
          | (with_reducible refine wpList_build_want rfl 23 #[] rfl #[] rfl (.agg (ofK .u8 zer32).toArray) (Try.buildId _) ?_)
          | ((with_reducible refine wpList_store_blk w2 rfl 23 (.tmp 8) (.tmp 27) rfl w1.heap.size 23 (ofK .u8 zer32) (ofK .u8 zer32) HB2.out.1 rfl rfl rfl HZI.out (one_ofK _ _) ?_); intro w6 hb hc hs; have H6 := Lib.hid (And.intro hb hc); clear hb hc hs))
        refine bodyPost_ret (results_cellTmp Try.results53 _ _ w1.heap.size _ _ rfl H6.out.1 _ Try.underlying23 rfl HZI.out _ rfl) rfl ⟨rfl, ?_⟩
        exact below_ch HB2.out.2.2.1 H6.out.2 (Nat.le_refl _) (fun k hk => by have : k = w1.heap.size := hk; have := HB2.out.2.2.2; omega)

end Go.Proofs.Ytkbhehnpgnilmaa
