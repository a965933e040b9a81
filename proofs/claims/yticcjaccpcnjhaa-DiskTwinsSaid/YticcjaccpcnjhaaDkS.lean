/-
  content, walked; what an idle disk comes to. Conditions: at most 2^30 writes and acts, five sectors.
-/
import Derived.Test.YticcjaccpcnjhaaDkR
namespace Go.Proofs.Yticcjaccpcnjhaa
open Go Go.RowKit

theorem setFrom_mid (vs : List Value) : ∀ (a b c : List Value) (i : Nat), i = a.length → vs.length = b.length → setFrom (a ++ b ++ c) i vs = a ++ vs ++ c := by
  induction vs with
  | nil => intro a b c i _ hb; have : b = [] := List.length_eq_zero_iff.1 hb.symm; simp [setFrom, this]
  | cons v r ih =>
    intro a b c i hi hb
    cases b with
    | nil => simp at hb
    | cons u b =>
      subst hi
      have := ih (a ++ [v]) b c (a.length + 1) (by simp) (by simpa using hb)
      simp only [setFrom, List.append_assoc, List.cons_append, List.nil_append] at this ⊢
      rw [List.set_append_right _ _ (Nat.le_refl _), Nat.sub_self, List.set_cons_zero]
      exact this

/-- the first k sectors, and noughts behind them -/
def zerC : List Int := List.replicate 320 0
def conTo (x : Dk) (k : Nat) : List Int := (List.range k).flatMap (fun j : Nat => x.holds j) ++ List.replicate (320 - 64 * k) 0
def contentL (x : Dk) : List Int := if x.out = true then zerC else conTo x 5

theorem con_len {x : Dk} {n : Nat} (hx : x.Ok n) : ∀ k : Nat, ((List.range k).flatMap (fun j : Nat => x.holds j)).length = 64 * k
  | 0 => rfl
  | k + 1 => by
    rw [List.range_succ, List.flatMap_append, List.length_append, con_len hx k]
    simp [(hx.holdsB k).1]; omega
theorem conTo_len {x : Dk} {n : Nat} (hx : x.Ok n) {k : Nat} (hk : k ≤ 5) : (conTo x k).length = 320 := by
  rw [conTo, List.length_append, con_len hx, List.length_replicate]; omega
set_option maxRecDepth 10000 in
theorem contentL_len {x : Dk} {n : Nat} (hx : x.Ok n) : (contentL x).length = 320 := by
  unfold contentL; split; exact List.length_replicate (n := 320) (a := (0 : Int)); exact conTo_len hx (Nat.le_refl _)
theorem ofK_app (k : IntKind) (a b : List Int) : ofK k (a ++ b) = ofK k a ++ ofK k b := List.map_append
theorem conTo_set {x : Dk} {n : Nat} (hx : x.Ok n) {k : Nat} (hk : k < 5) : setFrom (ofK .u8 (conTo x k)) (k * 64) (ofK .u8 (x.holds k)) = ofK .u8 (conTo x (k + 1)) := by
  have e : 320 - 64 * k = 64 + (320 - 64 * (k + 1)) := by omega
  unfold conTo
  rw [e, ← List.replicate_append_replicate, ← List.append_assoc, ofK_app, ofK_app, setFrom_mid _ _ _ _ _ (by rw [length_ofK, con_len hx]; omega) (by rw [length_ofK, length_ofK, (hx.holdsB k).1]; simp), List.range_succ, List.flatMap_append, ← ofK_app, ← ofK_app]
  simp
theorem conTo_eq {x y : Dk} (h : ∀ j, y.holds j = x.holds j) (k : Nat) : conTo y k = conTo x k := by
  unfold conTo; rw [show (fun j : Nat => y.holds j) = fun j : Nat => x.holds j from funext fun j => h j]

/-- a disk with power that neither fails nor is armed -/
structure Idle (x : Dk) : Prop where
  out : x.out = false
  arms : x.arms = -1
  fails : x.fails = -1

theorem idle_new (n : Int) : Idle (newD n) := ⟨rfl, rfl, rfl⟩

theorem idle_askE {x : Dk} (h : Idle x) {i : Int} (l : Bool) : askE x i l = if 0 ≤ i ∧ i < x.size then 0 else 2 := by
  unfold askE
  simp only [h.out, h.arms, h.fails, Bool.false_eq_true, if_false, Int.reduceNeg, Int.reduceEq, and_false]
  split <;> split <;> first | rfl | omega
theorem idle_askD {x : Dk} (h : Idle x) {i : Int} (l : Bool) : askD x i l = x := by
  obtain ⟨s, f, lo, o, a, fa, op⟩ := x
  obtain ⟨h1, h2, h3⟩ := h
  simp only at h1 h2 h3
  subst h1 h2 h3
  unfold askD
  simp [decF]
theorem idle_ok {x : Dk} (h : Idle x) {i : Int} (l : Bool) (h0 : 0 ≤ i) (h1 : i < x.size) : askE x i l = 0 := by rw [idle_askE h, if_pos (show 0 ≤ i ∧ i < x.size from ⟨h0, h1⟩)]
theorem idle_not {x : Dk} (h : Idle x) {i : Int} (l : Bool) (h0 : ¬ (0 ≤ i ∧ i < x.size)) : askE x i l = 2 := by rw [idle_askE h, if_neg h0]
theorem fin_ok {x x3 : Dk} {i : Int} {l : Bool} (h : askE x i l = 0) : finD x i l x3 = { x3 with ops := x3.ops + 1 } := if_pos h
theorem fin_not {x x3 : Dk} {i : Int} {l : Bool} (h : askE x i l ≠ 0) : finD x i l x3 = askD x i l := if_neg h
theorem idle_read {x : Dk} (h : Idle x) {i : Int} (h0 : 0 ≤ i) (h1 : i < x.size) : readD x i = { x with ops := x.ops + 1 } := by
  unfold readD; rw [fin_ok (idle_ok h _ h0 h1), idle_askD h]
theorem idle_readB {x : Dk} (h : Idle x) {i : Int} (h0 : 0 ≤ i) (h1 : i < x.size) : readB x i = x.holds i := if_pos (idle_ok h _ h0 h1)
theorem idle_read_not {x : Dk} (h : Idle x) {i : Int} (h0 : ¬ (0 ≤ i ∧ i < x.size)) : readD x i = x := by
  unfold readD; rw [fin_not (by rw [idle_not h _ h0]; omega), idle_askD h]
theorem idle_write {x : Dk} (h : Idle x) {i : Int} (b : List Int) (h0 : 0 ≤ i) (h1 : i < x.size) : writeD x i b = { x with loose := x.loose ++ [(i, b)], ops := x.ops + 1 } := by
  unfold writeD; rw [fin_ok (idle_ok h _ h0 h1), idle_askD h]
theorem idle_write_not {x : Dk} (h : Idle x) {i : Int} (b : List Int) (h0 : ¬ (0 ≤ i ∧ i < x.size)) : writeD x i b = x := by
  unfold writeD; rw [fin_not (by rw [idle_not h _ h0]; omega), idle_askD h]
theorem idle_sync {x : Dk} (h : Idle x) (h1 : 1 ≤ x.size) : syncD x = { settleD (fun _ => true) x with ops := x.ops + 1 } := by
  unfold syncD; rw [fin_ok (idle_ok h _ (Int.le_refl _) (by omega)), idle_askD h]; rfl

theorem Try.infoCt : (Try.prog.info? 61).map (·.size) = some 320 := by kernel_rfl
theorem Try.zeroCt : ∀ w, (zeroValue 61).run Try.prog w = .ok (.agg (ofK .u8 (zerC)).toArray) w := fun w => by kernel_rfl
theorem infoC {b : List Int} (h : b.length = 320) : (Try.prog.info? 61).map (·.size) = some (ofK .u8 b).length := by rw [length_ofK, h]; exact Try.infoCt

/-- how the copy stands in the round -/
def ConI (wr w1 : World) (ob q : Nat) (x : Dk) (n k : Nat) : Prop :=
  ∃ (y : Dk) (T : Nat → Prop), DkAt wr q T y ∧ (∀ j, T j → w1.heap.size ≤ j) ∧ y.Ok (n + k) ∧ Idle y ∧ y.size = 5 ∧ (∀ j, y.holds j = x.holds j) ∧
    Blk wr ob 61 (ofK .u8 (conTo x k)) ∧ Below ob w1 wr

set_option maxRecDepth 100000 in
set_option maxHeartbeats 4000000 in
theorem content_any (p : Nat) (S : Nat → Prop) (x : Dk) (n : Nat) (w : World) (h : DkAt w p S x) (hx : x.Ok n) (hn : n ≤ 1073741800) (h5 : x.size = 5) :
    Calls Try.prog 35 #[.pointer (some ⟨p, 0, none⟩)] w (fun e w' => e = .returned (.agg (ofK .u8 (contentL x)).toArray) ∧ Below w.heap.size w w') := by
  have HL := Lib.hid (show ∀ k, k ≤ 5 → (conTo x k).length = 320 from fun k hk => conTo_len hx hk)
  have HLC := Lib.hid (contentL_len hx)
  have HXK := Lib.hid hx
  have H := Lib.hid h
  clear h hx
  go_enter Try.func35, Try.ntmps35
  go_wp2_with (with_reducible refine wpList_alloc_blk w rfl 61 rfl (ofK .u8 (zerC)) Try.zeroCt ?_; intro w1 hb1 hbel1 hsz1; have HB1 := Lib.hid (And.intro hb1 (And.intro hbel1 hsz1)); clear hb1 hbel1 hsz1)
  have hd1 := H.out.keep (Ch.of_below (S := fun _ => False) HB1.out.2.1 (Nat.le_refl _)) (fun _ _ h => h)
  refine (copy_any p S x n w1 hd1 HXK.out (by omega)).mono ?_
  clear hd1
  rintro e w2 ⟨q, rfl, hd2, hb2⟩
  have H2 := Lib.hid (And.intro hd2 hb2)
  clear hd2 hb2
  by_cases ho : x.out = true
  · have hE := show powE x = 9 from if_pos ho
    have hA := show armF x (-1) = x from if_pos ho
    go_wp2_with fail
    refine (arm_at q _ x x (-1) 9 w2 H2.out.1 hA hE).mono ?_
    rintro e w3 ⟨rfl, hd3, hc3⟩
    have hb3 : Below w1.heap.size w1 w3 := below_ch H2.out.2 hc3 (Nat.le_refl _) (fun k hk => hk.1)
    have HB3 := Lib.hid (And.intro (HB1.out.1.below hb3 HB1.out.1.lt) (show Below w.heap.size w w3 from below_thn HB1.out.2.1 hb3 (Nat.le_refl _)))
    have HR3 := Lib.hid (rangeW_blk HB3.out.1)
    have HI := Lib.hid (infoC (b := zerC) (List.length_replicate (n := 320) (a := (0 : Int))))
    clear hd3 hc3 hb3
    go_wp2_with (first
      | (with_reducible refine wpList_load_any rfl 61 (.tmp 2) rfl w.heap.size 0 rfl (ofK .u8 (zerC)) _ HR3.out Try.underlying61 rfl HI.out ?_)
      | ((with_reducible refine wpList_store_blk w3 rfl 61 (.tmp 2) (.tmp 19) rfl w.heap.size 61 (ofK .u8 (zerC)) (ofK .u8 (zerC)) HB3.out.1 rfl rfl rfl HI.out (one_ofK _ _) ?_); intro w5 hb5 hc5 hs5; have HB5 := Lib.hid (And.intro hb5 hc5); clear hb5 hc5 hs5))
    have e : contentL x = zerC := if_pos ho
    rw [e]
    refine bodyPost_ret (results_blk Try.results35 _ _ w.heap.size _ _ rfl HB5.out.1 _ Try.underlying61 rfl HI.out) rfl ⟨rfl, ?_⟩
    exact below_ch HB3.out.2 HB5.out.2 (Nat.le_refl _) (fun k hk => by have : k = w.heap.size := hk; omega)
  · have ho' : x.out = false := by simpa using ho
    have hE := show powE x = 0 from if_neg ho
    have hA := show armF x (-1) = { x with arms := -1 } from (if_neg ho).trans rfl
    have hE2 := show powE { x with arms := -1 } = 0 from if_neg ho
    have hA2 := show failF { x with arms := -1 } (-1) = { x with arms := -1, fails := -1 } from (if_neg ho).trans rfl
    have eC : contentL x = conTo x 5 := if_neg ho
    have hk4 := (failF_ok (armF_ok (k := -1) HXK.out (by omega)) (k := -1) (by omega))
    rw [hA, hA2] at hk4
    go_wp2_with fail
    refine (arm_at q _ x _ (-1) 0 w2 H2.out.1 hA hE).mono ?_
    rintro e w3 ⟨rfl, hd3, hc3⟩
    have H3 := Lib.hid (And.intro hd3 hc3)
    clear hd3 hc3
    go_wp2_with fail
    refine (fail_at q _ _ _ (-1) 0 w3 H3.out.1 hA2 hE2).mono ?_
    rintro e w4 ⟨rfl, hd4, hc4⟩
    have hb4 : Below w1.heap.size w1 w4 := below_ch (below_ch H2.out.2 H3.out.2 (Nat.le_refl _) (fun k hk => hk.1)) hc4 (Nat.le_refl _) (fun k hk => by rcases hk with hk | hk; exact hk.1; have := H2.out.2.size; omega)
    have HI4 := Lib.hid (show ConI w4 w1 w.heap.size q x n 0 from ⟨_, _, hd4, fun j hj => by
      rcases hj with (hj | hj) | hj
      · exact hj.1
      · have := H2.out.2.size; omega
      · have := H2.out.2.size; have := H3.out.2.size; omega, hk4, ⟨ho', rfl, rfl⟩, h5, fun j => rfl, HB1.out.1.below hb4 HB1.out.1.lt, hb4.mono (by have := HB1.out.2.2; omega)⟩)
    clear hd4 hc4 hb4 hk4 hA hA2 hE hE2 H3
    go_wp2_with fail
    go_loopw [4, 20] (fun _ c wr => ∃ k : Nat, k ≤ 5 ∧ c = .int .i64 k ∧ Hid (ConI wr w1 w.heap.size q x n k)) (fun _ c _ => 5 - (intOf c).toNat)
    case atStart => exact ⟨0, by omega, rfl, HI4⟩
    case round =>
      obtain ⟨k, hk, rfl, HR⟩ := hrel
      by_cases hlt : k < 5
      · obtain ⟨y, T, hd, hT, hyk, hid, hs5, hho, hbk, hbl⟩ := HR.out
        have hkI : (k : Int) < y.size := by rw [hs5]; omega
        have e1 := idle_read hid (i := k) (by omega) hkI
        have e2 := idle_ok hid (i := k) false (by omega) hkI
        have e3 := (idle_readB hid (i := k) (by omega) hkI).trans (hho k)
        have hB := HXK.out.holdsB k
        have hy2 := readD_ok hyk k
        rw [e1] at hy2
        have HY := Lib.hid (And.intro hd (And.intro hT (And.intro hy2 (And.intro (show Idle { y with ops := y.ops + 1 } from ⟨hid.out, hid.arms, hid.fails⟩) (And.intro hs5 (And.intro (show ∀ j, ({ y with ops := y.ops + 1 } : Dk).holds j = x.holds j from hho) (And.intro hbk hbl)))))))
        have HYK := Lib.hid hyk
        have HE := Lib.hid (And.intro e1 (And.intro e2 e3))
        have HBI := Lib.hid (infoB hB)
        have hk0 : (0 : Int) ≤ (k : Int) := by omega
        have hk1 : (k : Int) < 5 := by omega
        clear hd hT hyk hid hs5 hho hbk hbl e1 e2 e3 hy2 HR hkI
        go_wp2_with fail
        refine (read_at q T y _ k (x.holds k) 0 (n + k) wr HY.out.1 HYK.out (by omega) HE.out.1 HE.out.2.1 HE.out.2.2).mono ?_
        rintro e w5 ⟨rfl, hd5, hc5⟩
        have hob : ¬ T w.heap.size := fun h => by have := HY.out.2.1 _ h; have := HB1.out.2.2; omega
        have H5 := Lib.hid (And.intro hd5 (And.intro hc5 (And.intro (HY.out.2.2.2.2.2.2.1.keep hc5 hob) hob)))
        have HS := Lib.hid (conTo_set HXK.out hlt)
        have HLB := Lib.hid (show k * 64 + (ofK .u8 (x.holds k)).length ≤ (ofK .u8 (conTo x k)).length from by rw [length_ofK, length_ofK, hB.1, HL.out k hk]; omega)
        clear hd5 hc5 hob hB
        go_wp2_with ((with_reducible refine wpList_store_part w5 rfl 39 (.tmp 30) (.tmp 28) rfl w.heap.size (k * 64) 61 (ofK .u8 (conTo x k)) (ofK .u8 (x.holds k)) H5.out.2.2.1 rfl rfl HLB.out HBI.out (one_ofK _ _) ?_); intro w6 hb6 hc6 hs6; have HB6 := Lib.hid (And.intro hb6 (And.intro hc6 hs6)); clear hb6 hc6 hs6)
        go_roundw
        case rel =>
          refine ⟨k + 1, by omega, by go_num, Lib.hid ⟨_, Gr T wr w5, H5.out.1.keep HB6.out.2.1 (fun j hj e => ?_), fun j hj => ?_, HY.out.2.2.1, HY.out.2.2.2.1, HY.out.2.2.2.2.1, HY.out.2.2.2.2.2.1, ?_, ?_⟩⟩
          · obtain rfl : j = w.heap.size := e
            rcases hj with hj | hj
            · exact H5.out.2.2.2 hj
            · have := HY.out.2.2.2.2.2.2.1.lt; omega
          · rcases hj with hj | hj
            · exact HY.out.2.1 _ hj
            · have := HY.out.2.2.2.2.2.2.2.size; omega
          · have := HB6.out.1; rwa [HS.out] at this
          · exact below_ch (below_ch HY.out.2.2.2.2.2.2.2 H5.out.2.1 (by have := HB1.out.2.2; omega) (fun j hj => by have := HY.out.2.1 _ hj; have := HB1.out.2.2; omega)) HB6.out.2.1 (by have := HB1.out.2.2; omega) (fun j hj => by have : j = w.heap.size := hj; omega)
        case measure => simp [intOf]; omega
      · obtain rfl : k = 5 := by omega
        obtain ⟨y, T, hd, hT, hyk, hid, hs5, hho, hbk, hbl⟩ := HR.out
        have HB7 := Lib.hid (And.intro hbk (show Below w.heap.size w wr from HB1.out.2.1.trans hbl))
        have HR7 := Lib.hid (rangeW_blk hbk)
        have HI7 := Lib.hid (infoC (HL.out 5 (Nat.le_refl _)))
        clear hd hT hyk hid hs5 hho hbk hbl HR
        go_wp2_with (first
          | (with_reducible refine wpList_load_any rfl 61 (.tmp 2) rfl w.heap.size 0 rfl (ofK .u8 (conTo x 5)) _ HR7.out Try.underlying61 rfl HI7.out ?_)
          | ((with_reducible refine wpList_store_blk wr rfl 61 (.tmp 2) (.tmp 32) rfl w.heap.size 61 (ofK .u8 (conTo x 5)) (ofK .u8 (conTo x 5)) HB7.out.1 rfl rfl rfl HI7.out (one_ofK _ _) ?_); intro w8 hb8 hc8 hs8; have HB8 := Lib.hid (And.intro hb8 hc8); clear hb8 hc8 hs8))
        rw [eC]
        refine bodyPost_ret (results_blk Try.results35 _ _ w.heap.size _ _ rfl HB8.out.1 _ Try.underlying61 rfl HI7.out) rfl ⟨rfl, ?_⟩
        exact below_ch HB7.out.2 HB8.out.2 (Nat.le_refl _) (fun k hk => by have : k = w.heap.size := hk; omega)

end Go.Proofs.Yticcjaccpcnjhaa
