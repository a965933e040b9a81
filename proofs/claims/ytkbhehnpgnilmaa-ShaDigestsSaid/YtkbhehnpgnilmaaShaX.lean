/-
  ShaReturns, walked. Conditions: a digest of 32 bytes.
-/
import Derived.Test.YtkbhehnpgnilmaaShaO
import Derived.Test.YtkbhehnpgnilmaaConv
import Derived.Test.YtkbhehnpgnilmaaHex2
namespace Go.Proofs.Ytkbhehnpgnilmaa
open Go Go.RowKit

theorem fresh_ch {w w' : World} {o : Obj} (h : Ch (· = w.heap.size) (w.alloc o) w') : Below w.heap.size w w' :=
  below_ch ((Below.refl _ w).alloc (Nat.le_refl _) o) h (Nat.le_refl _) (fun k h => by have h2 : k = w.heap.size := h; omega)

theorem set_ofK (k : IntKind) (T : List Int) (R : List Value) (o : Nat) (x : Int) (h : o < T.length) : (ofK k T ++ R).set o (Value.int k x) = ofK k (T.set o x) ++ R := by
  unfold ofK
  rw [List.set_append_left _ _ (by simpa using h), List.map_set]

theorem conv_set (w5 : World) (tb ob : ByteArray) (T : List Int) (sign : Int) (o : Nat) (ht : tb = toB T) (hT : AllB T) (htn : tb.size = 64) (ho1 : o < 64) (hs : 0 ≤ sign ∧ sign ≤ 255) (hob : ob = toB (T.set o sign)) :
    ∃ c w6 u, (convert 9 33 (.string tb)).run Try.prog w5 = .ok (.slice (some ⟨w5.heap.size, 0, none⟩) tb.size c) w6 ∧ w6.cell? ⟨w5.heap.size, o, none⟩ = some u ∧ w6.frozen? ⟨w5.heap.size, o, none⟩ = false ∧ Below w5.heap.size w5 (w6.setCell ⟨w5.heap.size, o, none⟩ (.int .u8 sign)) ∧
      ∀ w', Below (w6.setCell ⟨w5.heap.size, o, none⟩ (.int .u8 sign)).heap.size (w6.setCell ⟨w5.heap.size, o, none⟩ (.int .u8 sign)) w' → (convert 33 9 (.slice (some ⟨w5.heap.size, 0, none⟩) tb.size c)).run Try.prog w' = .ok (.string ob) w' := by
  obtain ⟨c, w6, h1, h2, h3, h4, h5⟩ := conv_string (P := Try.prog) w5 9 33 5 tb Try.underlying9 Try.underlying33 Try.underlying5 (by rw [htn]; unfold maxLen; omega)
  have e1 : ints tb = T := by rw [ht]; exact ints_toB hT
  have hTl : T.length = 64 := by rw [← e1, ints_length]; exact htn
  have hlen : (ofK .u8 T).length = 64 := by rw [length_ofK]; exact hTl
  rw [e1] at h4
  have hset := h4.set o (.int .u8 sign)
  rw [set_ofK _ _ _ _ _ (by omega)] at hset
  refine ⟨c, w6, _, h1, (h4.cell o).trans (List.getElem?_eq_getElem (by rw [List.length_append, hlen]; omega)), h4.free o (by rw [List.length_append, hlen]; omega), ?_, fun w' hb => ?_⟩
  · exact below_ch h5 (Ch.set w6 ⟨w5.heap.size, o, none⟩ (.int .u8 sign)) (Nat.le_refl _) (fun k h => by have h2 : k = w5.heap.size := h; omega)
  · have hb2 := hset.below hb hset.lt
    have hsl := hb2.sl tb.size c (by rw [List.length_append, length_ofK, List.length_set]; omega) h2 h3
    rw [List.take_left' (by rw [length_ofK, List.length_set]; omega)] at hsl
    rw [hob]
    exact run_convert_sl (P := Try.prog) w' 33 9 5 Try.underlying33 Try.underlying5 Try.underlying9 _ _ hsl (fun a ha => by
      rcases List.mem_or_eq_of_mem_set ha with h | h
      · exact hT a h
      · rw [h]; exact hs)

set_option maxRecDepth 100000 in
set_option maxHeartbeats 2000000 in
theorem shaReturns_go (idv : List Int) (at_ sign : Int) (s : ByteArray) (x y : List Int) (e1 e2 : Int) (tb ob : ByteArray) (o : Nat) (w : World) (hl : idv.length = 32) (hb : AllB idv) (hsg : 0 ≤ sign ∧ sign ≤ 255)
    (htb : tb = toB (textL idv)) (htn : tb.size = 64) (hpt : parseF (ints tb) = (idv, 0)) (ho : (IntKind.u64.wrap at_).tmod 64 = (o : Int)) (ho1 : o < 64)
    (hob : ob = toB ((textL idv).set o sign)) (hpo : parseF (ints ob) = (x, e1)) (hps : parseF (ints s) = (y, e2)) (hx : x.length = 32) (hy : y.length = 32)
    (hd : e1 = 0 ∧ isHex sign = true ∧ AllB x ∧ toB (textL x) = ob ∨ e1 = 130 ∧ isHex sign = false) (hf : e2 = 0 ∧ AllB y ∧ toB (textL y) = s ∨ e2 = 130) :
    Calls Try.prog 4 #[.agg (ofK .u8 idv).toArray, .int .i64 at_, .int .u8 sign, .string s] w (TrueP w) := by
  have H := Lib.hid (And.intro hl (And.intro hb (And.intro htb (And.intro htn (And.intro hpt (And.intro ho (And.intro ho1 (And.intro hob (And.intro hpo hps)))))))))
  have hlen : ((tb.size : Int) != 64) = false := by rw [htn]; rfl
  have heq : ∀ w, (Op.equalIn 10000 23 (.agg (ofK .u8 idv).toArray) (.agg (ofK .u8 idv).toArray)).run Try.prog w = .ok (decide (idv = idv)) w := fun w => run_equalIn_arrK (P := Try.prog) w .u8 9998 23 5 32 Try.underlying23 Try.underlying5 (fun _ => by rfl) idv idv hl hl
  rw [decide_eq_true rfl] at heq
  have hcv := Lib.hid (fun w => conv_set w tb ob (textL idv) sign o htb (textL_allB hb) htn ho1 hsg hob)
  have ho2 : 0 ≤ (o : Int) ∧ (o : Int) < (tb.size : Int) := by rw [htn]; omega
  have HX := Lib.hid (And.intro hx (And.intro hy (And.intro hd hf)))
  obtain ⟨d, hdd⟩ : ∃ d, d = isHex sign := ⟨_, rfl⟩
  have HD := Lib.hid hdd
  clear hl hb htb htn hpt ho1 hob hpo hps hsg hx hy hd hf hdd
  have HI := Lib.hid (show ∀ xs : List Int, xs.length = 32 → (Try.prog.info? 23).map (·.size) = some (ofK .u8 xs).length from fun xs hx => by rw [length_ofK, hx]; kernel_rfl)
  have HY := Lib.hid (show ∀ w : World, Blk (w.alloc (.cells #[.int .u8 0, .int .u8 0, .int .u8 0, .int .u8 0, .int .u8 0, .int .u8 0, .int .u8 0, .int .u8 0, .int .u8 0, .int .u8 0, .int .u8 0, .int .u8 0, .int .u8 0, .int .u8 0, .int .u8 0, .int .u8 0, .int .u8 0, .int .u8 0, .int .u8 0, .int .u8 0, .int .u8 0, .int .u8 0, .int .u8 0, .int .u8 0, .int .u8 0, .int .u8 0, .int .u8 0, .int .u8 0, .int .u8 0, .int .u8 0, .int .u8 0, .int .u8 0] 23)) w.heap.size 23 [.int .u8 0, .int .u8 0, .int .u8 0, .int .u8 0, .int .u8 0, .int .u8 0, .int .u8 0, .int .u8 0, .int .u8 0, .int .u8 0, .int .u8 0, .int .u8 0, .int .u8 0, .int .u8 0, .int .u8 0, .int .u8 0, .int .u8 0, .int .u8 0, .int .u8 0, .int .u8 0, .int .u8 0, .int .u8 0, .int .u8 0, .int .u8 0, .int .u8 0, .int .u8 0, .int .u8 0, .int .u8 0, .int .u8 0, .int .u8 0, .int .u8 0, .int .u8 0] from fun w => Blk.new w [.int .u8 0, .int .u8 0, .int .u8 0, .int .u8 0, .int .u8 0, .int .u8 0, .int .u8 0, .int .u8 0, .int .u8 0, .int .u8 0, .int .u8 0, .int .u8 0, .int .u8 0, .int .u8 0, .int .u8 0, .int .u8 0, .int .u8 0, .int .u8 0, .int .u8 0, .int .u8 0, .int .u8 0, .int .u8 0, .int .u8 0, .int .u8 0, .int .u8 0, .int .u8 0, .int .u8 0, .int .u8 0, .int .u8 0, .int .u8 0, .int .u8 0, .int .u8 0] 23)
  have H1 := Lib.hid (show ∀ xs : List Int, xs.length = 32 → (ofK .u8 xs).length = ([.int .u8 0, .int .u8 0, .int .u8 0, .int .u8 0, .int .u8 0, .int .u8 0, .int .u8 0, .int .u8 0, .int .u8 0, .int .u8 0, .int .u8 0, .int .u8 0, .int .u8 0, .int .u8 0, .int .u8 0, .int .u8 0, .int .u8 0, .int .u8 0, .int .u8 0, .int .u8 0, .int .u8 0, .int .u8 0, .int .u8 0, .int .u8 0, .int .u8 0, .int .u8 0, .int .u8 0, .int .u8 0, .int .u8 0, .int .u8 0, .int .u8 0, .int .u8 0] : List Value).length from fun xs hx => by rw [length_ofK, hx]; rfl)
  have B1 := Lib.hid (And.intro (Blk.new w (ofK .u8 idv) 23) ((Below.refl _ w).alloc (Nat.le_refl _) (.cells (ofK .u8 idv).toArray 23)))
  go_enter Try.func4, Try.ntmps4
  go_wp2_with fail
  refine (wakes3_any _).mono ?_
  rintro e w2 ⟨rfl, hbel⟩
  have HW2 := Lib.hid (And.intro (B1.out.1.below hbel B1.out.1.lt) (below_thn B1.out.2 hbel (Nat.le_refl _)))
  clear hbel B1
  go_wp2_with (with_reducible refine wpList_load_blk _ rfl 23 (.tmp 4) rfl w.heap.size 23 (ofK .u8 idv) HW2.out.1 rfl _ Try.underlying23 rfl (HI.out _ H.out.1) ?_)
  refine (text_any idv _ H.out.1 H.out.2.1).mono ?_
  rintro e w3 ⟨rfl, hbel⟩
  have HW3 := Lib.hid (And.intro (HW2.out.1.below hbel HW2.out.1.lt) (below_thn HW2.out.2 hbel (Nat.le_refl _)))
  clear hbel HW2
  rw [← H.out.2.2.1]
  go_wp2_with fail
  refine (parse_of tb idv 0 _ H.out.2.2.2.2.1).mono ?_
  rintro e w4 ⟨rfl, hbel⟩
  have HW4 := Lib.hid (And.intro (HW3.out.1.below hbel HW3.out.1.lt) (below_thn HW3.out.2 hbel (Nat.le_refl _)))
  clear hbel HW3
  go_wp2_with (first
    | (with_reducible refine wpList_store_blk _ rfl 23 (.tmp 10) (.tmp 23) rfl w4.heap.size 23 [.int .u8 0, .int .u8 0, .int .u8 0, .int .u8 0, .int .u8 0, .int .u8 0, .int .u8 0, .int .u8 0, .int .u8 0, .int .u8 0, .int .u8 0, .int .u8 0, .int .u8 0, .int .u8 0, .int .u8 0, .int .u8 0, .int .u8 0, .int .u8 0, .int .u8 0, .int .u8 0, .int .u8 0, .int .u8 0, .int .u8 0, .int .u8 0, .int .u8 0, .int .u8 0, .int .u8 0, .int .u8 0, .int .u8 0, .int .u8 0, .int .u8 0, .int .u8 0] (ofK .u8 idv) (HY.out _) rfl rfl (H1.out _ H.out.1) (HI.out _ H.out.1) (one_ofK _ _) ?_; intro w5 hb5 hch5 hsz5; clear hsz5; have HF5 := Lib.hid (And.intro hb5 (fresh_ch hch5)); clear hb5 hch5; obtain ⟨c, w6, u6, hrun, hcell, hfree, hbel7, hback⟩ := hcv.out w5; have HB7 := Lib.hid hbel7; have HK7 := Lib.hid hback; have hback0 := hback _ (Below.refl _ _); clear hbel7 hback)
    | (refine wpList_load_want rfl 23 (.tmp 10) rfl w4.heap.size 0 rfl (ofK .u8 idv) _ (rangeAt_blk HF5.out.1) Try.underlying23 rfl (HI.out _ H.out.1) ?_)
    | (refine wpList_load_want rfl 23 (.tmp 4) rfl w.heap.size 0 rfl (ofK .u8 idv) _ (rangeAt_blk (HW4.out.1.below HF5.out.2 HW4.out.1.lt)) Try.underlying23 rfl (HI.out _ H.out.1) ?_))
  refine (parse_of ob x e1 _ H.out.2.2.2.2.2.2.2.2.1).mono ?_
  rintro e w8 ⟨rfl, hbel⟩
  have HW8 := Lib.hid (And.intro (below_thn (below_thn (below_thn HW4.out.2 HF5.out.2 (Nat.le_refl _)) HB7.out (Nat.le_refl _)) hbel (Nat.le_refl _)) (fun w' (h : Below w8.heap.size w8 w') => HK7.out w' (below_thn hbel h (Nat.le_refl _))))
  clear hbel HB7 HK7 hback0 HF5 HW4 hrun hcell hfree heq hcv ho
  go_upto_region 10 with (with_reducible refine wpList_store_blk _ rfl 23 (.tmp 13) (.tmp 49) rfl w8.heap.size 23 [.int .u8 0, .int .u8 0, .int .u8 0, .int .u8 0, .int .u8 0, .int .u8 0, .int .u8 0, .int .u8 0, .int .u8 0, .int .u8 0, .int .u8 0, .int .u8 0, .int .u8 0, .int .u8 0, .int .u8 0, .int .u8 0, .int .u8 0, .int .u8 0, .int .u8 0, .int .u8 0, .int .u8 0, .int .u8 0, .int .u8 0, .int .u8 0, .int .u8 0, .int .u8 0, .int .u8 0, .int .u8 0, .int .u8 0, .int .u8 0, .int .u8 0, .int .u8 0] (ofK .u8 x) (HY.out _) rfl rfl (H1.out _ HX.out.1) (HI.out _ HX.out.1) (one_ofK _ _) ?_; intro w9 hb9 hch9 hsz9; clear hsz9; have HF9 := Lib.hid (And.intro hb9 (And.intro (below_thn HW8.out.1 (fresh_ch hch9) (Nat.le_refl _)) (fun w' (h : Below w9.heap.size w9 w') => HW8.out.2 w' (below_thn (fresh_ch hch9) h (Nat.le_refl _))))); clear hb9 hch9)
  go_cut [14] (fun s14 wc => s14 = .bool d ∧ wc = w9)
  case first =>
    by_cases g1 : 48 ≤ sign
    · by_cases g2 : sign ≤ 57
      · go_wp2_with fail
        go_meet
        exact ⟨by rw [HD.out]; unfold isHex; simp <;> omega, rfl⟩
      · by_cases g3 : 97 ≤ sign
        · by_cases g4 : sign ≤ 102
          · go_wp2_with fail
            go_meet
            exact ⟨by rw [HD.out]; unfold isHex; simp <;> omega, rfl⟩
          · go_wp2_with fail
            go_meet
            exact ⟨by rw [HD.out]; unfold isHex; simp <;> omega, rfl⟩
        · go_wp2_with fail
          go_meet
          exact ⟨by rw [HD.out]; unfold isHex; simp <;> omega, rfl⟩
    · have g3 : ¬ 97 ≤ sign := by omega
      go_wp2_with fail
      go_meet
      exact ⟨by rw [HD.out]; unfold isHex; simp <;> omega, rfl⟩
  case rest =>
    obtain ⟨rfl, rfl⟩ := hcut
    have hcg := fun p => HF9.out.2.2 (grew wc p) (below_grew wc p)
    rcases HX.out.2.2.1 with ⟨rfl, hh, hax, htx⟩ | ⟨rfl, hh⟩
    · obtain rfl : d = true := by rw [HD.out, hh]
      go_wp2_with fail
      refine wp_region_grew (by kernel_rfl) (by kernel_rfl) ?_
      repeat (first | go_big_quiet_skip | (go_big_quiet_want; (first | (refine quiet_load_mid 23 (.tmp 13) rfl w8.heap.size 0 rfl (ofK .u8 x) _ (fun w' hw' => rangeAt_grew (rangeAt_blk HF9.out.1) w' hw') Try.underlying23 rfl (HI.out _ HX.out.1) ?_; go_simp; go_big_quiet_on) | (go_big_quiet_op; (first | go_big_quiet_on | (apply Exists.intro; refine ⟨fun _ => ?_, ?_⟩; (focus (go_at_call 27; (with_reducible exact calls_grew (text_any x _ HX.out.1 hax)))); go_big_quiet_on))))))
      refine wpQuiet_nil ?_
      intro w10 hw10
      obtain ⟨p, rfl⟩ := hw10
      have HB10 := Lib.hid (below_thn HF9.out.2.1 (below_grew wc p) (Nat.le_refl _))
      generalize grew wc p = w10 at HB10 ⊢
      rw [htx]
      · skip
        go_wp2_with fail
        refine (parse_of s y e2 _ H.out.2.2.2.2.2.2.2.2.2).mono ?_
        rintro e w11 ⟨rfl, hbel⟩
        have HB11 := Lib.hid (below_thn HB10.out hbel (Nat.le_refl _))
        clear hbel HB10
        rcases HX.out.2.2.2 with ⟨rfl, hay, hty⟩ | rfl
        · go_wp2_with (first
            | (with_reducible refine wpList_store_blk _ rfl 23 (.tmp 15) (.tmp 82) rfl w11.heap.size 23 [.int .u8 0, .int .u8 0, .int .u8 0, .int .u8 0, .int .u8 0, .int .u8 0, .int .u8 0, .int .u8 0, .int .u8 0, .int .u8 0, .int .u8 0, .int .u8 0, .int .u8 0, .int .u8 0, .int .u8 0, .int .u8 0, .int .u8 0, .int .u8 0, .int .u8 0, .int .u8 0, .int .u8 0, .int .u8 0, .int .u8 0, .int .u8 0, .int .u8 0, .int .u8 0, .int .u8 0, .int .u8 0, .int .u8 0, .int .u8 0, .int .u8 0, .int .u8 0] (ofK .u8 y) (HY.out _) rfl rfl (H1.out _ HX.out.2.1) (HI.out _ HX.out.2.1) (one_ofK _ _) ?_; intro w12 hb12 hch12 hsz12; clear hsz12; have HF12 := Lib.hid (And.intro hb12 (below_thn HB11.out (fresh_ch hch12) (Nat.le_refl _))); clear hb12 hch12)
            | (refine wpList_load_want rfl 23 (.tmp 15) rfl w11.heap.size 0 rfl (ofK .u8 y) _ (rangeAt_blk HF12.out.1) Try.underlying23 rfl (HI.out _ HX.out.2.1) ?_))
          refine (text_any y _ HX.out.2.1 hay).mono ?_
          rintro e w13 ⟨rfl, hbel⟩
          have HB13 := Lib.hid (below_thn HF12.out.2 hbel (Nat.le_refl _))
          rw [hty]
          clear hbel HF12
          go_wp2_with fail
          go_ret
          exact ⟨rfl, HB13.out⟩
        · go_wp2_with (with_reducible refine wpList_store_blk _ rfl 23 (.tmp 15) (.tmp 82) rfl w11.heap.size 23 [.int .u8 0, .int .u8 0, .int .u8 0, .int .u8 0, .int .u8 0, .int .u8 0, .int .u8 0, .int .u8 0, .int .u8 0, .int .u8 0, .int .u8 0, .int .u8 0, .int .u8 0, .int .u8 0, .int .u8 0, .int .u8 0, .int .u8 0, .int .u8 0, .int .u8 0, .int .u8 0, .int .u8 0, .int .u8 0, .int .u8 0, .int .u8 0, .int .u8 0, .int .u8 0, .int .u8 0, .int .u8 0, .int .u8 0, .int .u8 0, .int .u8 0, .int .u8 0] (ofK .u8 y) (HY.out _) rfl rfl (H1.out _ HX.out.2.1) (HI.out _ HX.out.2.1) (one_ofK _ _) ?_; intro w12 hb12 hch12 hsz12; clear hsz12; have HF12 := Lib.hid (And.intro hb12 (below_thn HB11.out (fresh_ch hch12) (Nat.le_refl _))); clear hb12 hch12)
          go_ret
          exact ⟨rfl, HF12.out.2⟩
    · obtain rfl : d = false := by rw [HD.out, hh]
      go_wp2_with fail
      refine wp_region_grew (by kernel_rfl) (by kernel_rfl) ?_
      repeat (first | go_big_quiet_skip | (go_big_quiet_want; go_big_quiet_op; go_big_quiet_on))
      refine wpQuiet_nil ?_
      intro w10 hw10
      obtain ⟨p, rfl⟩ := hw10
      have HB10 := Lib.hid (below_thn HF9.out.2.1 (below_grew wc p) (Nat.le_refl _))
      generalize grew wc p = w10 at HB10 ⊢
      · skip
        go_wp2_with fail
        refine (parse_of s y e2 _ H.out.2.2.2.2.2.2.2.2.2).mono ?_
        rintro e w11 ⟨rfl, hbel⟩
        have HB11 := Lib.hid (below_thn HB10.out hbel (Nat.le_refl _))
        clear hbel HB10
        rcases HX.out.2.2.2 with ⟨rfl, hay, hty⟩ | rfl
        · go_wp2_with (first
            | (with_reducible refine wpList_store_blk _ rfl 23 (.tmp 15) (.tmp 82) rfl w11.heap.size 23 [.int .u8 0, .int .u8 0, .int .u8 0, .int .u8 0, .int .u8 0, .int .u8 0, .int .u8 0, .int .u8 0, .int .u8 0, .int .u8 0, .int .u8 0, .int .u8 0, .int .u8 0, .int .u8 0, .int .u8 0, .int .u8 0, .int .u8 0, .int .u8 0, .int .u8 0, .int .u8 0, .int .u8 0, .int .u8 0, .int .u8 0, .int .u8 0, .int .u8 0, .int .u8 0, .int .u8 0, .int .u8 0, .int .u8 0, .int .u8 0, .int .u8 0, .int .u8 0] (ofK .u8 y) (HY.out _) rfl rfl (H1.out _ HX.out.2.1) (HI.out _ HX.out.2.1) (one_ofK _ _) ?_; intro w12 hb12 hch12 hsz12; clear hsz12; have HF12 := Lib.hid (And.intro hb12 (below_thn HB11.out (fresh_ch hch12) (Nat.le_refl _))); clear hb12 hch12)
            | (refine wpList_load_want rfl 23 (.tmp 15) rfl w11.heap.size 0 rfl (ofK .u8 y) _ (rangeAt_blk HF12.out.1) Try.underlying23 rfl (HI.out _ HX.out.2.1) ?_))
          refine (text_any y _ HX.out.2.1 hay).mono ?_
          rintro e w13 ⟨rfl, hbel⟩
          have HB13 := Lib.hid (below_thn HF12.out.2 hbel (Nat.le_refl _))
          rw [hty]
          clear hbel HF12
          go_wp2_with fail
          go_ret
          exact ⟨rfl, HB13.out⟩
        · go_wp2_with (with_reducible refine wpList_store_blk _ rfl 23 (.tmp 15) (.tmp 82) rfl w11.heap.size 23 [.int .u8 0, .int .u8 0, .int .u8 0, .int .u8 0, .int .u8 0, .int .u8 0, .int .u8 0, .int .u8 0, .int .u8 0, .int .u8 0, .int .u8 0, .int .u8 0, .int .u8 0, .int .u8 0, .int .u8 0, .int .u8 0, .int .u8 0, .int .u8 0, .int .u8 0, .int .u8 0, .int .u8 0, .int .u8 0, .int .u8 0, .int .u8 0, .int .u8 0, .int .u8 0, .int .u8 0, .int .u8 0, .int .u8 0, .int .u8 0, .int .u8 0, .int .u8 0] (ofK .u8 y) (HY.out _) rfl rfl (H1.out _ HX.out.2.1) (HI.out _ HX.out.2.1) (one_ofK _ _) ?_; intro w12 hb12 hch12 hsz12; clear hsz12; have HF12 := Lib.hid (And.intro hb12 (below_thn HB11.out (fresh_ch hch12) (Nat.le_refl _))); clear hb12 hch12)
          go_ret
          exact ⟨rfl, HF12.out.2⟩

theorem parse_what (ob : ByteArray) : ∃ x e, parseF (ints ob) = (x, e) ∧ x.length = 32 ∧ (e = 0 ∧ (ints ob).length = 64 ∧ (ints ob).all isHex = true ∧ AllB x ∧ toB (textL x) = ob ∨ e = 130 ∧ ¬ ((ints ob).length = 64 ∧ (ints ob).all isHex = true)) := by
  rcases parseF_cases (ints ob) with ⟨id, h1, h2, h3, h4⟩ | ⟨h1, h2⟩
  · refine ⟨id, 0, h1, h2, .inl ⟨rfl, ?_, ?_, h3, ints_inj ?_⟩⟩
    · rw [← h4, textL_length, h2]
    · rw [← h4]; exact textL_hex h3
    · rw [ints_toB (textL_allB h3)]; exact h4
  · exact ⟨_, _, h1, List.length_replicate, .inr ⟨rfl, h2⟩⟩

theorem shaReturns_walk (idv : List Int) (at_ sign : Int) (s : ByteArray) (w : World) (hl : idv.length = 32) (hb : AllB idv) (_ : -9223372036854775808 ≤ at_ ∧ at_ ≤ 9223372036854775807) (hsg : 0 ≤ sign ∧ sign ≤ 255) {p : Prop} (_ : p) :
    Calls Try.prog 4 #[.agg (ofK .u8 idv).toArray, .int .i64 at_, .int .u8 sign, .string s] w (TrueP w) := by
  have hw : 0 ≤ IntKind.u64.wrap at_ := by show 0 ≤ at_ % 18446744073709551616; omega
  obtain ⟨o, ho⟩ : ∃ o : Nat, (IntKind.u64.wrap at_).tmod 64 = (o : Int) := ⟨((IntKind.u64.wrap at_).tmod 64).toNat, by rw [Int.tmod_eq_emod_of_nonneg hw]; omega⟩
  have ho1 : o < 64 := by rw [Int.tmod_eq_emod_of_nonneg hw] at ho; omega
  have htl : (textL idv).length = 64 := by rw [textL_length, hl]
  have hit := ints_toB (textL_allB hb)
  have hTs : AllB ((textL idv).set o sign) := fun a ha => by
    rcases List.mem_or_eq_of_mem_set ha with h | h
    · exact textL_allB hb a h
    · rw [h]; exact hsg
  have hio := ints_toB hTs
  obtain ⟨x, e1, h1, h2, h3⟩ := parse_what (toB ((textL idv).set o sign))
  obtain ⟨y, e2, k1, k2, k3⟩ := parse_what s
  rw [hio, List.length_set, all_set (textL_hex hb) o sign (by omega)] at h3
  refine shaReturns_go idv at_ sign s x y e1 e2 _ _ o w hl hb hsg rfl (by rw [← ints_length, hit, htl]) (by rw [hit]; exact parse_text hb hl) ho ho1 rfl h1 k1 h2 k2 ?_ ?_
  · rcases h3 with ⟨a, _, b, c, d⟩ | ⟨a, b⟩
    · exact .inl ⟨a, b, c, d⟩
    · exact .inr ⟨a, by simpa [htl] using b⟩
  · rcases k3 with ⟨a, _, _, c, d⟩ | ⟨a, _⟩
    · exact .inl ⟨a, c, d⟩
    · exact .inr a

end Go.Proofs.Ytkbhehnpgnilmaa
