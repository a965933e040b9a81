/-
  DiskMisses, walked. Conditions: none.
-/
import Derived.Test.YticcjaccpcnjhaaEnv
namespace Go.Proofs.Yticcjaccpcnjhaa
open Go Go.RowKit

/-- the disk that is to fail, by what is left -/
def MisR (x y : Dk) (L : Int) : Prop := (0 ≤ L ∧ x = failing y L) ∨ (L < 0 ∧ x = y)

structure MisI (w wr : World) (p q : Nat) (k : Nat) (L : Int) (x y : Dk) : Prop where
  env : Env w wr p x (some (q, y)) []
  idle : Idle y
  size : y.size = 5
  okY : y.Ok k
  okX : x.Ok k
  rel : MisR x y L
  low : -(k : Int) ≤ L
  high : L ≤ 255

theorem MisR.same {x y : Dk} {L : Int} (h : MisR x y L) : x.out = y.out ∧ x.loose = y.loose ∧ x.firm = y.firm ∧ x.ops = y.ops ∧ x.size = y.size := by
  rcases h with ⟨_, rfl⟩ | ⟨_, rfl⟩ <;> exact ⟨rfl, rfl, rfl, rfl, rfl⟩

theorem MisR.not {x y : Dk} {L : Int} (h : MisR x y L) (hi : Idle y) (h5 : y.size = 5) {a : ActD} (hk : kindF a.kind < 3) (hl : thereB a = false) : MisR (actF x a) (actF y a) L ∧ actB x a = actB y a ∧ actE x a = actE y a := by
  rcases h with ⟨h0, rfl⟩ | ⟨h0, rfl⟩
  · obtain ⟨e1, e2, e3⟩ := failing_not (L := L) hi h5 hk hl
    exact ⟨.inl ⟨h0, e1⟩, e2, e3⟩
  · exact ⟨.inr ⟨h0, rfl⟩, rfl, rfl⟩
theorem MisR.on {x y : Dk} {L : Int} (h : MisR x y L) (hi : Idle y) (h5 : y.size = 5) {a : ActD} (hk : kindF a.kind < 3) (hl : thereB a = true) (hL : L ≠ 0) : MisR (actF x a) (actF y a) (L - 1) ∧ actB x a = actB y a ∧ actE x a = actE y a := by
  rcases h with ⟨h0, rfl⟩ | ⟨h0, rfl⟩
  · obtain ⟨e1, e2, e3⟩ := failing_on (L := L) hi h5 hk (by omega) hl
    exact ⟨.inl ⟨by omega, e1⟩, e2, e3⟩
  · exact ⟨.inr ⟨by omega, rfl⟩, rfl, rfl⟩
theorem MisR.hit {x y : Dk} {L : Int} (h : MisR x y L) (hi : Idle y) (h5 : y.size = 5) {a : ActD} (hk : kindF a.kind < 3) (hl : thereB a = true) (hL : L = 0) : MisR (actF x a) y (-1) ∧ actB x a = zer ∧ actE x a = 8 := by
  rcases h with ⟨h0, rfl⟩ | ⟨h0, rfl⟩
  · subst hL
    obtain ⟨e1, e2, e3⟩ := failing_now hi h5 hk hl
    exact ⟨.inr ⟨by omega, e1⟩, e2, e3⟩
  · omega

set_option maxRecDepth 100000 in
set_option maxHeartbeats 8000000 in
theorem diskMisses_walk (v0 : Value) (l : List (ActD × Value)) (n : Int) (w : World) (s : SlA w v0 l) (hn : 0 ≤ n ∧ n ≤ 255) : Calls Try.prog 9 #[v0, .int .u8 n] w (TrueP w) := by
  obtain ⟨ao, cp, rfl, hlc, hc63, hcells, hoks⟩ := s
  have HIz := Lib.hid (infoB isB_zer)
  have HE2 := Lib.hid eq_zero
  have HS := Lib.hid (And.intro hcells hoks)
  have hn0 := hn.1
  have hn1 := hn.2
  have hfd : failF (newD 5) n = failing (newD 5) n := by simp [failF, newD, failing, upF, hn0]
  have hxk : (failing (newD 5) n).Ok 0 := { newD_ok (n := 5) (by omega) (by omega) 0 with fails1 := by show -1 ≤ n; omega, fails2 := by show n ≤ _; omega }
  have HX := Lib.hid (And.intro hfd hxk)
  clear hcells hoks hn hfd hxk
  go_enter Try.func9, Try.ntmps9
  go_wp2_with fail
  refine (wakes_any w).mono ?_
  rintro e w1 ⟨rfl, hb1⟩
  go_wp2_with fail
  refine (blank_any w1).mono ?_
  rintro e w2 ⟨p, rfl, hd2, hb2⟩
  have H2 := Lib.hid (And.intro hb1 (And.intro hd2 hb2))
  clear hb1 hd2 hb2
  go_wp2_with fail
  refine (blank_any w2).mono ?_
  rintro e w3 ⟨q, rfl, hd3, hb3⟩
  have H3 := Lib.hid (duo_start H2.out.1 H2.out.2.1 H2.out.2.2 hd3 hb3)
  clear hd3 hb3 H2
  go_wp2_with fail
  refine (fail_duo n 0 _ H3.out.1 HX.out.1 rfl).mono ?_
  rintro e w4 ⟨rfl, hd4⟩
  have H4 := Lib.hid (H3.out.did hd4)
  clear hd4 H3
  go_wp2_with fail
  refine (few_any ao l.length cp w4 hlc hc63).mono ?_
  rintro e w' ⟨rfl, rfl⟩
  obtain ⟨m, hm⟩ : ∃ m, m = min l.length 60 := ⟨_, rfl⟩
  rw [← hm]
  have hm60 : m ≤ 60 := by omega
  have HM := Lib.hid (show m ≤ l.length by omega)
  clear hm
  go_wp2_with fail
  go_loopw [7, 38] (fun left c wr => ∃ (k : Nat) (L : Int), k ≤ m ∧ left = .int .i64 L ∧ c = .int .i64 k ∧ Hid (∃ x y, MisI w wr p q k L x y)) (fun _ c _ => m - (intOf c).toNat)
  case atStart => exact ⟨0, n, by omega, rfl, rfl, Lib.hid ⟨_, _, H4.out, idle_new 5, rfl, newD_ok (n := 5) (by omega) (by omega) 0, HX.out.2, .inl ⟨hn0, rfl⟩, by omega, hn1⟩⟩
  case round =>
    obtain ⟨k, L, hk, rfl, rfl, HR⟩ := hrel
    obtain ⟨x, y, HR⟩ := HR.out
    have hL0 : -(k : Int) ≤ L := HR.low
    have hL1 : L ≤ 255 := HR.high
    replace HR := Lib.hid HR
    clear H4
    by_cases hlt : k < m
    · have hkl : k < l.length := by have := HM.out; omega
      obtain ⟨b, o, rfl, hcell⟩ := HS.out.1 (by omega)
      obtain ⟨ka, klen, kcp, hkv, hok⟩ := HS.out.2 l[k] (List.getElem_mem hkl)
      have hcl := hcell k hkl
      generalize l[k] = lk at hkv hok hcl
      obtain ⟨a, kv⟩ := lk
      simp only at hkv hok hcl
      subst hkv
      have HC := Lib.hid (rangeW_below hcl HR.out.env.b)
      have HA := Lib.hid hok
      have HIA := Lib.hid (infoA a (.slice ka klen kcp))
      have HLA := Lib.hid (lenA a (.slice ka klen kcp))
      have HOA := Lib.hid (oneA a ka klen kcp)
      clear hcl hok hcell
      have hk0 : (0 : Int) ≤ (k : Int) := by omega
      have hk1 : (k : Int) < (m : Int) := by omega
      go_wp2_with (first
        | (with_reducible refine wpList_load_any rfl 49 (.tmp 40) rfl b (o + k * 5) rfl (actC a (.slice ka klen kcp)) _ HC.out Try.underlying49 rfl HIA.out ?_)
        | ((with_reducible refine wpList_alloc_blk wr rfl 49 rfl actZ Try.zeroAct ?_); intro w5 hb hbel hsz; have H5 := Lib.hid (HR.out.env.new hb hbel hsz); clear hb hbel hsz)
        | ((with_reducible refine wpList_store_blk w5 rfl 49 (.tmp 9) (.tmp 41) rfl wr.heap.size 49 actZ (actC a (.slice ka klen kcp)) H5.out.hd rfl rfl HLA.out HIA.out HOA.out ?_); intro w6 hb hc hs; have H6 := Lib.hid (H5.out.put hb hc); have HR6 := Lib.hid (rangeW_blk hb); clear hb hc hs)
        | (with_reducible refine wpList_load_any rfl 49 (.tmp 9) rfl wr.heap.size 0 rfl (actC a (.slice ka klen kcp)) _ HR6.out Try.underlying49 rfl HIA.out ?_))
      by_cases hq : kindF a.kind < 3
      · have hb : decide (kindF a.kind < 3) = true := decide_eq_true hq
        refine (asks_duo a _ true H6.out.1 hb).mono ?_
        rintro e w7 ⟨rfl, hd⟩
        have H7 := Lib.hid (H6.out.did hd)
        have HR7 := Lib.hid (rangeW_blk H7.out.hd)
        clear hd H6
        clear hb H5 HR6 HC
        by_cases ht : thereB a = true
        · by_cases hL : L = 0
          · have HRel := Lib.hid (HR.out.rel.hit HR.out.idle HR.out.size hq ht hL)
            subst hL
            have HIY := Lib.hid isB_zer
            go_wp2_with (with_reducible refine wpList_load_any rfl 49 (.tmp 9) rfl wr.heap.size 0 rfl (actC a (.slice ka klen kcp)) _ HR7.out Try.underlying49 rfl HIA.out ?_)
            refine (act_duo a ka klen kcp k _ _ _ H7.out.1 HR.out.okX (by omega) (HA.out.below H7.out.b) (by omega) rfl HRel.out.2.1 HRel.out.2.2).mono ?_
            rintro e w8 ⟨rfl, hd⟩
            have H8 := Lib.hid (H7.out.did hd)
            have HR8 := Lib.hid (rangeW_blk H8.out.hd)
            clear hd H7
            have HIB := Lib.hid (infoB HIY.out)
            go_wp2_with (first
              | ((with_reducible refine wpList_alloc_blk w8 rfl 39 rfl (ofK .u8 zer) Try.zeroBl ?_); intro w9 hb hbel hsz; have H9 := Lib.hid (H8.out.new hb hbel hsz); clear hb hbel hsz)
              | ((with_reducible refine wpList_store_blk w9 rfl 39 (.tmp 11) (.tmp 50) rfl w8.heap.size 39 (ofK .u8 zer) (ofK .u8 zer) H9.out.hd rfl rfl rfl HIB.out (one_ofK _ _) ?_); intro w10 hb hc hs; have H10 := Lib.hid (H9.out.put hb hc); have HR10 := Lib.hid (rangeW_blk H10.out.hd2); clear hb hc hs)
              | (with_reducible refine wpList_load_any rfl 49 (.tmp 9) rfl wr.heap.size 0 rfl (actC a (.slice ka klen kcp)) _ HR10.out Try.underlying49 rfl HIA.out ?_))
            refine (there_duo a _ true H10.out.1 ht).mono ?_
            rintro e w11 ⟨rfl, hd⟩
            have H11 := Lib.hid (H10.out.did hd)
            have HR11 := Lib.hid (rangeW_blk H11.out.hd2)
            clear hd H10
            go_wp2_with (with_reducible refine wpList_load_any rfl 49 (.tmp 9) rfl wr.heap.size 0 rfl (actC a (.slice ka klen kcp)) _ HR11.out Try.underlying49 rfl HIA.out ?_)
            refine (there_duo a _ true H11.out.1 ht).mono ?_
            rintro e w12 ⟨rfl, hd⟩
            have H12 := Lib.hid (H11.out.did hd)
            have HR12 := Lib.hid (rangeW_blk H12.out.hd2)
            have HS12 := Lib.hid (rangeW_blk H12.out.hd)
            clear hd H11
            have he := HE2.out
            go_wp2_with (with_reducible refine wpList_load_any rfl 39 (.tmp 11) rfl w8.heap.size 0 rfl (ofK .u8 zer) _ HS12.out Try.underlying39 rfl HIB.out ?_)
            go_roundw
            case rel => exact ⟨k + 1, -1, by omega, by go_num, by go_num, Lib.hid ⟨_, _, Env.of H12.out.end, HR.out.idle, HR.out.size, HR.out.okY.mono (by omega), actF_ok HR.out.okX HA.out, HRel.out.1, by omega, by omega⟩⟩
            case measure => simp [intOf]; omega
          · have HRel := Lib.hid (HR.out.rel.on HR.out.idle HR.out.size hq ht hL)
            have hL1' : ¬ L - 1 = -1 := by omega
            have HIY := Lib.hid (isB_act HR.out.okY a)
            have HE := Lib.hid (fun w => eq_blocks w (actB y a) (actB y a) true HIY.out HIY.out (decide_eq_true rfl))
            go_wp2_with (with_reducible refine wpList_load_any rfl 49 (.tmp 9) rfl wr.heap.size 0 rfl (actC a (.slice ka klen kcp)) _ HR7.out Try.underlying49 rfl HIA.out ?_)
            refine (act_duo a ka klen kcp k _ _ _ H7.out.1 HR.out.okX (by omega) (HA.out.below H7.out.b) (by omega) rfl HRel.out.2.1 HRel.out.2.2).mono ?_
            rintro e w8 ⟨rfl, hd⟩
            have H8 := Lib.hid (H7.out.did hd)
            have HR8 := Lib.hid (rangeW_blk H8.out.hd)
            clear hd H7
            have HLB := Lib.hid (lenB' HIY.out)
            have HIB := Lib.hid (infoB HIY.out)
            go_wp2_with (first
              | ((with_reducible refine wpList_alloc_blk w8 rfl 39 rfl (ofK .u8 zer) Try.zeroBl ?_); intro w9 hb hbel hsz; have H9 := Lib.hid (H8.out.new hb hbel hsz); clear hb hbel hsz)
              | ((with_reducible refine wpList_store_blk w9 rfl 39 (.tmp 11) (.tmp 50) rfl w8.heap.size 39 (ofK .u8 zer) (ofK .u8 (actB y a)) H9.out.hd rfl rfl HLB.out HIB.out (one_ofK _ _) ?_); intro w10 hb hc hs; have H10 := Lib.hid (H9.out.put hb hc); have HR10 := Lib.hid (rangeW_blk H10.out.hd2); clear hb hc hs)
              | (with_reducible refine wpList_load_any rfl 49 (.tmp 9) rfl wr.heap.size 0 rfl (actC a (.slice ka klen kcp)) _ HR10.out Try.underlying49 rfl HIA.out ?_))
            refine (there_duo a _ true H10.out.1 ht).mono ?_
            rintro e w11 ⟨rfl, hd⟩
            have H11 := Lib.hid (H10.out.did hd)
            have HR11 := Lib.hid (rangeW_blk H11.out.hd2)
            clear hd H10
            go_wp2_with (with_reducible refine wpList_load_any rfl 49 (.tmp 9) rfl wr.heap.size 0 rfl (actC a (.slice ka klen kcp)) _ HR11.out Try.underlying49 rfl HIA.out ?_)
            refine (there_duo a _ true H11.out.1 ht).mono ?_
            rintro e w12 ⟨rfl, hd⟩
            have H12 := Lib.hid (H11.out.did hd)
            have HR12 := Lib.hid (rangeW_blk H12.out.hd2)
            have HS12 := Lib.hid (rangeW_blk H12.out.hd)
            clear hd H11
            go_wp2_with (with_reducible refine wpList_load_any rfl 49 (.tmp 9) rfl wr.heap.size 0 rfl (actC a (.slice ka klen kcp)) _ HR12.out Try.underlying49 rfl HIA.out ?_)
            refine (act_duo2 a ka klen kcp k _ _ _ H12.out.1 HR.out.okY (by omega) (HA.out.below H12.out.b) (by omega) rfl rfl rfl).mono ?_
            rintro e w13 ⟨rfl, hd⟩
            have H13 := Lib.hid (H12.out.did hd)
            have HS13 := Lib.hid (rangeW_blk H13.out.hd)
            clear hd H12
            go_wp2_with (first
              | ((with_reducible refine wpList_alloc_blk w13 rfl 39 rfl (ofK .u8 zer) Try.zeroBl ?_); intro w14 hb hbel hsz; have H14 := Lib.hid (H13.out.new hb hbel hsz); clear hb hbel hsz)
              | ((with_reducible refine wpList_store_blk w14 rfl 39 (.tmp 14) (.tmp 74) rfl w13.heap.size 39 (ofK .u8 zer) (ofK .u8 (actB y a)) H14.out.hd rfl rfl HLB.out HIB.out (one_ofK _ _) ?_); intro w15 hb hc hs; have H15 := Lib.hid (H14.out.put hb hc); have HS15 := Lib.hid (rangeW_blk H15.out.hd2); have HT15 := Lib.hid (rangeW_blk H15.out.hd); have he := HE.out; clear hb hc hs)
              | (with_reducible refine wpList_load_any rfl 39 (.tmp 11) rfl w8.heap.size 0 rfl (ofK .u8 (actB y a)) _ HS15.out Try.underlying39 rfl HIB.out ?_)
              | (with_reducible refine wpList_load_any rfl 39 (.tmp 14) rfl w13.heap.size 0 rfl (ofK .u8 (actB y a)) _ HT15.out Try.underlying39 rfl HIB.out ?_))
            go_roundw
            case rel => exact ⟨k + 1, (L - 1), by omega, by go_num, by go_num, Lib.hid ⟨_, _, Env.of H15.out.end, (idle_act HR.out.idle HR.out.size hq).1, (idle_act HR.out.idle HR.out.size hq).2.1, actF_ok HR.out.okY HA.out, actF_ok HR.out.okX HA.out, HRel.out.1, by omega, by omega⟩⟩
            case measure => simp [intOf]; omega
        · have ht : thereB a = false := by simpa using ht
          have HRel := Lib.hid (HR.out.rel.not HR.out.idle HR.out.size hq ht)
          have HIY := Lib.hid (isB_act HR.out.okY a)
          have HE := Lib.hid (fun w => eq_blocks w (actB y a) (actB y a) true HIY.out HIY.out (decide_eq_true rfl))
          go_wp2_with (with_reducible refine wpList_load_any rfl 49 (.tmp 9) rfl wr.heap.size 0 rfl (actC a (.slice ka klen kcp)) _ HR7.out Try.underlying49 rfl HIA.out ?_)
          refine (act_duo a ka klen kcp k _ _ _ H7.out.1 HR.out.okX (by omega) (HA.out.below H7.out.b) (by omega) rfl HRel.out.2.1 HRel.out.2.2).mono ?_
          rintro e w8 ⟨rfl, hd⟩
          have H8 := Lib.hid (H7.out.did hd)
          have HR8 := Lib.hid (rangeW_blk H8.out.hd)
          clear hd H7
          have HLB := Lib.hid (lenB' HIY.out)
          have HIB := Lib.hid (infoB HIY.out)
          go_wp2_with (first
            | ((with_reducible refine wpList_alloc_blk w8 rfl 39 rfl (ofK .u8 zer) Try.zeroBl ?_); intro w9 hb hbel hsz; have H9 := Lib.hid (H8.out.new hb hbel hsz); clear hb hbel hsz)
            | ((with_reducible refine wpList_store_blk w9 rfl 39 (.tmp 11) (.tmp 50) rfl w8.heap.size 39 (ofK .u8 zer) (ofK .u8 (actB y a)) H9.out.hd rfl rfl HLB.out HIB.out (one_ofK _ _) ?_); intro w10 hb hc hs; have H10 := Lib.hid (H9.out.put hb hc); have HR10 := Lib.hid (rangeW_blk H10.out.hd2); clear hb hc hs)
            | (with_reducible refine wpList_load_any rfl 49 (.tmp 9) rfl wr.heap.size 0 rfl (actC a (.slice ka klen kcp)) _ HR10.out Try.underlying49 rfl HIA.out ?_))
          refine (there_duo a _ false H10.out.1 ht).mono ?_
          rintro e w11 ⟨rfl, hd⟩
          have H11 := Lib.hid (H10.out.did hd)
          have HR11 := Lib.hid (rangeW_blk H11.out.hd2)
          clear hd H10
          go_wp2_with (with_reducible refine wpList_load_any rfl 49 (.tmp 9) rfl wr.heap.size 0 rfl (actC a (.slice ka klen kcp)) _ HR11.out Try.underlying49 rfl HIA.out ?_)
          refine (there_duo a _ false H11.out.1 ht).mono ?_
          rintro e w12 ⟨rfl, hd⟩
          have H12 := Lib.hid (H11.out.did hd)
          have HR12 := Lib.hid (rangeW_blk H12.out.hd2)
          have HS12 := Lib.hid (rangeW_blk H12.out.hd)
          clear hd H11
          go_wp2_with (with_reducible refine wpList_load_any rfl 49 (.tmp 9) rfl wr.heap.size 0 rfl (actC a (.slice ka klen kcp)) _ HR12.out Try.underlying49 rfl HIA.out ?_)
          refine (act_duo2 a ka klen kcp k _ _ _ H12.out.1 HR.out.okY (by omega) (HA.out.below H12.out.b) (by omega) rfl rfl rfl).mono ?_
          rintro e w13 ⟨rfl, hd⟩
          have H13 := Lib.hid (H12.out.did hd)
          have HS13 := Lib.hid (rangeW_blk H13.out.hd)
          clear hd H12
          go_wp2_with (first
            | ((with_reducible refine wpList_alloc_blk w13 rfl 39 rfl (ofK .u8 zer) Try.zeroBl ?_); intro w14 hb hbel hsz; have H14 := Lib.hid (H13.out.new hb hbel hsz); clear hb hbel hsz)
            | ((with_reducible refine wpList_store_blk w14 rfl 39 (.tmp 14) (.tmp 74) rfl w13.heap.size 39 (ofK .u8 zer) (ofK .u8 (actB y a)) H14.out.hd rfl rfl HLB.out HIB.out (one_ofK _ _) ?_); intro w15 hb hc hs; have H15 := Lib.hid (H14.out.put hb hc); have HS15 := Lib.hid (rangeW_blk H15.out.hd2); have HT15 := Lib.hid (rangeW_blk H15.out.hd); have he := HE.out; clear hb hc hs)
            | (with_reducible refine wpList_load_any rfl 39 (.tmp 11) rfl w8.heap.size 0 rfl (ofK .u8 (actB y a)) _ HS15.out Try.underlying39 rfl HIB.out ?_)
            | (with_reducible refine wpList_load_any rfl 39 (.tmp 14) rfl w13.heap.size 0 rfl (ofK .u8 (actB y a)) _ HT15.out Try.underlying39 rfl HIB.out ?_))
          go_roundw
          case rel => exact ⟨k + 1, L, by omega, by go_num, by go_num, Lib.hid ⟨_, _, Env.of H15.out.end, (idle_act HR.out.idle HR.out.size hq).1, (idle_act HR.out.idle HR.out.size hq).2.1, actF_ok HR.out.okY HA.out, actF_ok HR.out.okX HA.out, HRel.out.1, by omega, by omega⟩⟩
          case measure => simp [intOf]; omega
      · have hb : decide (kindF a.kind < 3) = false := decide_eq_false hq
        refine (asks_duo a _ false H6.out.1 hb).mono ?_
        rintro e w7 ⟨rfl, hd⟩
        have H7 := Lib.hid (H6.out.did hd)
        clear hd H6
        clear hb H5 HR6 HC
        go_wp2_with fail
        go_roundw
        case rel => exact ⟨k + 1, L, by omega, rfl, by go_num, Lib.hid ⟨x, y, Env.of H7.out.end, HR.out.idle, HR.out.size, HR.out.okY.mono (by omega), HR.out.okX.mono (by omega), HR.out.rel, by omega, by omega⟩⟩
        case measure => simp [intOf]; omega
    · obtain rfl : k = m := by omega
      have hs := HR.out.rel.same
      have hce : contentL x = contentL y := contentL_eq hs.1 hs.2.1 hs.2.2.1
      have hx5 : x.size = 5 := hs.2.2.2.2.trans HR.out.size
      have HEF := Lib.hid (fun w => eq_five w (contentL y) (contentL_len HR.out.okY))
      have HN := Lib.hid (show x.ops = y.ops ∧ x.loose.length = y.loose.length ∧ x.out = false from ⟨hs.2.2.2.1, by rw [hs.2.1], hs.1.trans HR.out.idle.out⟩)
      have HC := Lib.hid (And.intro hce hx5)
      clear hs hce hx5 hlt
      go_wp2_with fail
      refine (content_duo k _ HR.out.env.1 HR.out.okX (by omega) HC.out.2 HC.out.1).mono ?_
      rintro e w5 ⟨rfl, hd⟩
      have H5 := Lib.hid (HR.out.env.did hd)
      clear hd
      go_wp2_with fail
      refine (content_duo k _ H5.out.swap.1 HR.out.okY (by omega) HR.out.size rfl).mono ?_
      rintro e w6 ⟨rfl, hd⟩
      have H6 := Lib.hid ((H5.out.swap.did hd).swap)
      have he := HEF.out
      clear hd H5
      go_wp2_with fail
      refine (ops_duo y.ops H6.out.1 HN.out.1).mono ?_
      rintro e w' ⟨rfl, rfl⟩
      go_wp2_with fail
      refine (ops_duo y.ops H6.out.swap.1 rfl).mono ?_
      rintro e w' ⟨rfl, rfl⟩
      go_wp2_with fail
      refine (pending_duo k y.loose.length H6.out.1 HR.out.okX (by omega) HN.out.2.1).mono ?_
      rintro e w7 ⟨ao1, c1, rfl, _, hd⟩
      have H7 := Lib.hid (H6.out.did hd)
      clear hd
      go_wp2_with fail
      refine (pending_duo k y.loose.length H7.out.swap.1 HR.out.okY (by omega) rfl).mono ?_
      rintro e w8 ⟨ao2, c2, rfl, _, hd⟩
      have H8 := Lib.hid (H7.out.swap.did hd).swap
      clear hd
      go_wp2_with fail
      refine (dead_duo false H8.out.1 HN.out.2.2).mono ?_
      rintro e w' ⟨rfl, rfl⟩
      go_wp2_with fail
      go_ret
      exact ⟨rfl, H8.out.b⟩

end Go.Proofs.Yticcjaccpcnjhaa
