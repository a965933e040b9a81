/-
  DiskLoses, walked. Conditions: none.
-/
import Derived.Test.YticcjaccpcnjhaaEnv
namespace Go.Proofs.Yticcjaccpcnjhaa
open Go Go.RowKit

structure LosI (w wr : World) (p q : Nat) (k : Nat) (L : Int) (y : Dk) : Prop where
  env : Env w wr p (armed y L) (some (q, y)) []
  idle : Idle y
  size : y.size = 5
  okY : y.Ok k
  low : 0 ≤ L
  high : L ≤ 255

theorem armed_ok {y : Dk} {k : Nat} {L : Int} (h : y.Ok k) (h0 : 0 ≤ L) (h1 : L ≤ 255) : (armed y L).Ok k :=
  { h with arms1 := by show -1 ≤ L; omega, arms2 := by show L ≤ _; omega }

set_option maxRecDepth 100000 in
set_option maxHeartbeats 8000000 in
theorem diskLoses_walk (v0 : Value) (l : List (ActD × Value)) (n : Int) (w : World) (s : SlA w v0 l) (hn : 0 ≤ n ∧ n ≤ 255) : Calls Try.prog 8 #[v0, .int .u8 n] w (TrueP w) := by
  obtain ⟨ao, cp, rfl, hlc, hc63, hcells, hoks⟩ := s
  have HIz := Lib.hid (infoB isB_zer)
  have HS := Lib.hid (And.intro hcells hoks)
  have hn0 := hn.1
  have hn1 := hn.2
  have hfd : armF (newD 5) n = armed (newD 5) n := by simp [armF, newD, armed, upF, hn0]
  have HX := Lib.hid hfd
  clear hcells hoks hn hfd
  go_enter Try.func8, Try.ntmps8
  go_wp2_with fail
  refine (wakes_any w).mono ?_
  rintro e w1 ⟨rfl, hb1⟩
  go_wp2_with fail
  refine (blank_any w1).mono ?_
  rintro e w2 ⟨p, rfl, hd2, hb2⟩
  have H2 := Lib.hid (And.intro hb1 (And.intro hd2 hb2))
  clear hb1 hd2 hb2
  go_wp2_with fail
  refine (blank_any w2).mono ?_
  rintro e w3 ⟨q, rfl, hd3, hb3⟩
  have H3 := Lib.hid (duo_start H2.out.1 H2.out.2.1 H2.out.2.2 hd3 hb3)
  clear hd3 hb3 H2
  go_wp2_with fail
  refine (arm_duo n 0 _ H3.out.1 HX.out rfl).mono ?_
  rintro e w4 ⟨rfl, hd4⟩
  have H4 := Lib.hid (H3.out.did hd4)
  clear hd4 H3
  go_wp2_with fail
  refine (few_any ao l.length cp w4 hlc hc63).mono ?_
  rintro e w' ⟨rfl, rfl⟩
  obtain ⟨m, hm⟩ : ∃ m, m = min l.length 60 := ⟨_, rfl⟩
  rw [← hm]
  have hm60 : m ≤ 60 := by omega
  have HM := Lib.hid (show m ≤ l.length by omega)
  clear hm
  go_wp2_with fail
  go_loopw [7, 48] (fun left c wr => ∃ (k : Nat) (L : Int), k ≤ m ∧ left = .int .i64 L ∧ c = .int .i64 k ∧ Hid (∃ y, LosI w wr p q k L y)) (fun _ c _ => m - (intOf c).toNat)
  case atStart => exact ⟨0, n, by omega, rfl, rfl, Lib.hid ⟨_, H4.out, idle_new 5, rfl, newD_ok (n := 5) (by omega) (by omega) 0, hn0, hn1⟩⟩
  case round =>
    obtain ⟨k, L, hk, rfl, rfl, HR⟩ := hrel
    obtain ⟨y, HR⟩ := HR.out
    have hL0 : 0 ≤ L := HR.low
    have hL1 : L ≤ 255 := HR.high
    have HXK := Lib.hid (armed_ok HR.okY HR.low HR.high)
    replace HR := Lib.hid HR
    clear H4
    by_cases hlt : k < m
    · have hkl : k < l.length := by have := HM.out; omega
      obtain ⟨b, o, rfl, hcell⟩ := HS.out.1 (by omega)
      obtain ⟨ka, klen, kcp, hkv, hok⟩ := HS.out.2 l[k] (List.getElem_mem hkl)
      have hcl := hcell k hkl
      generalize l[k] = lk at hkv hok hcl
      obtain ⟨a, kv⟩ := lk
      simp only at hkv hok hcl
      subst hkv
      have HC := Lib.hid (rangeW_below hcl HR.out.env.b)
      have HA := Lib.hid hok
      have HIA := Lib.hid (infoA a (.slice ka klen kcp))
      have HLA := Lib.hid (lenA a (.slice ka klen kcp))
      have HOA := Lib.hid (oneA a ka klen kcp)
      clear hcl hok hcell
      have hk0 : (0 : Int) ≤ (k : Int) := by omega
      have hk1 : (k : Int) < (m : Int) := by omega
      go_wp2_with (first
        | (with_reducible refine wpList_load_any rfl 49 (.tmp 50) rfl b (o + k * 5) rfl (actC a (.slice ka klen kcp)) _ HC.out Try.underlying49 rfl HIA.out ?_)
        | ((with_reducible refine wpList_alloc_blk wr rfl 49 rfl actZ Try.zeroAct ?_); intro w5 hb hbel hsz; have H5 := Lib.hid (HR.out.env.new hb hbel hsz); clear hb hbel hsz)
        | ((with_reducible refine wpList_store_blk w5 rfl 49 (.tmp 9) (.tmp 51) rfl wr.heap.size 49 actZ (actC a (.slice ka klen kcp)) H5.out.hd rfl rfl HLA.out HIA.out HOA.out ?_); intro w6 hb hc hs; have H6 := Lib.hid (H5.out.put hb hc); have HR6 := Lib.hid (rangeW_blk hb); clear hb hc hs)
        | (with_reducible refine wpList_load_any rfl 49 (.tmp 9) rfl wr.heap.size 0 rfl (actC a (.slice ka klen kcp)) _ HR6.out Try.underlying49 rfl HIA.out ?_))
      by_cases hq : kindF a.kind < 3
      · have hb : decide (kindF a.kind < 3) = true := decide_eq_true hq
        refine (asks_duo a _ true H6.out.1 hb).mono ?_
        rintro e w7 ⟨rfl, hd⟩
        have H7 := Lib.hid (H6.out.did hd)
        have HR7 := Lib.hid (rangeW_blk H7.out.hd)
        clear hd H6
        clear hb H5 HR6 HC
        go_wp2_with (with_reducible refine wpList_load_any rfl 49 (.tmp 9) rfl wr.heap.size 0 rfl (actC a (.slice ka klen kcp)) _ HR7.out Try.underlying49 rfl HIA.out ?_)
        refine (kind_duo a _ (kindF a.kind) H7.out.1 rfl).mono ?_
        rintro e w8 ⟨rfl, hd⟩
        have H8 := Lib.hid (H7.out.did hd)
        have HR8 := Lib.hid (rangeW_blk H8.out.hd)
        clear hd H7
        by_cases hK : kindF a.kind = 0
        · have hl : laysB a = false := by simp [laysB, hK]
          have HRel := Lib.hid (armed_idles (L := L) HR.out.idle HR.out.size hq hl)
          rw [hK]
          have HIY := Lib.hid (isB_act HR.out.okY a)
          have HE := Lib.hid (fun w => eq_blocks w (actB y a) (actB y a) true HIY.out HIY.out (decide_eq_true rfl))
          have HLB := Lib.hid (lenB' HIY.out)
          have HIB := Lib.hid (infoB HIY.out)
          have HN := Lib.hid (show (actF y a).ops = (actF y a).ops ∧ (armed (actF y a) L).out = false from ⟨rfl, (idle_act HR.out.idle HR.out.size hq).1.out⟩)
          go_wp2_with (with_reducible refine wpList_load_any rfl 49 (.tmp 9) rfl wr.heap.size 0 rfl (actC a (.slice ka klen kcp)) _ HR8.out Try.underlying49 rfl HIA.out ?_)
          refine (act_duo a ka klen kcp k _ _ _ H8.out.1 HXK.out (by omega) (HA.out.below H8.out.b) (by omega) HRel.out.1 HRel.out.2.1 HRel.out.2.2).mono ?_
          rintro e w10 ⟨rfl, hd⟩
          have H10 := Lib.hid (H8.out.did hd)
          have HR10 := Lib.hid (rangeW_blk H10.out.hd)
          clear hd H8
          go_wp2_with (first
            | ((with_reducible refine wpList_alloc_blk w10 rfl 39 rfl (ofK .u8 zer) Try.zeroBl ?_); intro w11 hb hbel hsz; have H11 := Lib.hid (H10.out.new hb hbel hsz); clear hb hbel hsz)
            | ((with_reducible refine wpList_store_blk w11 rfl 39 (.tmp 21) (.tmp 145) rfl w10.heap.size 39 (ofK .u8 zer) (ofK .u8 (actB y a)) H11.out.hd rfl rfl HLB.out HIB.out (one_ofK _ _) ?_); intro w12 hb hc hs; have H12 := Lib.hid (H11.out.put hb hc); have HR12 := Lib.hid (rangeW_blk H12.out.hd2); clear hb hc hs)
            | (with_reducible refine wpList_load_any rfl 49 (.tmp 9) rfl wr.heap.size 0 rfl (actC a (.slice ka klen kcp)) _ HR12.out Try.underlying49 rfl HIA.out ?_))
          refine (act_duo2 a ka klen kcp k _ _ _ H12.out.1 HR.out.okY (by omega) (HA.out.below H12.out.b) (by omega) rfl rfl rfl).mono ?_
          rintro e w13 ⟨rfl, hd⟩
          have H13 := Lib.hid (H12.out.did hd)
          have HS13 := Lib.hid (rangeW_blk H13.out.hd)
          clear hd H12
          go_wp2_with (first
            | ((with_reducible refine wpList_alloc_blk w13 rfl 39 rfl (ofK .u8 zer) Try.zeroBl ?_); intro w14 hb hbel hsz; have H14 := Lib.hid (H13.out.new hb hbel hsz); clear hb hbel hsz)
            | ((with_reducible refine wpList_store_blk w14 rfl 39 (.tmp 24) (.tmp 152) rfl w13.heap.size 39 (ofK .u8 zer) (ofK .u8 (actB y a)) H14.out.hd rfl rfl HLB.out HIB.out (one_ofK _ _) ?_); intro w15 hb hc hs; have H15 := Lib.hid (H14.out.put hb hc); have HS15 := Lib.hid (rangeW_blk H15.out.hd2); have HT15 := Lib.hid (rangeW_blk H15.out.hd); have he := HE.out; clear hb hc hs)
            | (with_reducible refine wpList_load_any rfl 39 (.tmp 21) rfl w10.heap.size 0 rfl (ofK .u8 (actB y a)) _ HS15.out Try.underlying39 rfl HIB.out ?_)
            | (with_reducible refine wpList_load_any rfl 39 (.tmp 24) rfl w13.heap.size 0 rfl (ofK .u8 (actB y a)) _ HT15.out Try.underlying39 rfl HIB.out ?_))
          refine (dead_duo false H15.out.1 HN.out.2).mono ?_
          rintro e w' ⟨rfl, rfl⟩
          go_wp2_with fail
          refine (ops_duo (actF y a).ops H15.out.1 rfl).mono ?_
          rintro e w' ⟨rfl, rfl⟩
          go_wp2_with fail
          refine (ops_duo (actF y a).ops H15.out.swap.1 rfl).mono ?_
          rintro e w' ⟨rfl, rfl⟩
          go_wp2_with fail
          go_roundw
          case rel => exact ⟨k + 1, L, by omega, by go_num, by go_num, Lib.hid ⟨_, Env.of H15.out.end, (idle_act HR.out.idle HR.out.size hq).1, (idle_act HR.out.idle HR.out.size hq).2.1, actF_ok HR.out.okY HA.out, by omega, by omega⟩⟩
          case measure => simp [intOf]; omega
        · have hK0 : 0 < kindF a.kind := by have := (kindF_bd a.kind).1; omega
          have HKq := Lib.hid hq
          by_cases ht : thereB a = true
          · have hl : laysB a = true := by simp [laysB, hK0, ht]
            by_cases hL : L = 0
            · subst hL
              have HRel := Lib.hid (armed_dies HR.out.idle HR.out.size hq hl)
              go_wp2_with (with_reducible refine wpList_load_any rfl 49 (.tmp 9) rfl wr.heap.size 0 rfl (actC a (.slice ka klen kcp)) _ HR8.out Try.underlying49 rfl HIA.out ?_)
              refine (there_duo a _ true H8.out.1 ht).mono ?_
              rintro e w9 ⟨rfl, hd⟩
              have H9 := Lib.hid (H8.out.did hd)
              have HR9 := Lib.hid (rangeW_blk H9.out.hd)
              clear hd H8
              have HZ := Lib.hid (infoB isB_zer)
              have hxd := actF_ok HXK.out HA.out
              rw [HRel.out.1] at hxd
              have HXD := Lib.hid hxd
              have HDA := Lib.hid (dead_act (x := { armed y (-1) with out := true }) (a := a) rfl HKq.out)
              have HDR := Lib.hid (show readD { armed y (-1) with out := true } 0 = { armed y (-1) with out := true } ∧ askE { armed y (-1) with out := true } 0 false = 9 ∧ readB { armed y (-1) with out := true } 0 = zer from ⟨dead_fin rfl _ _, rfl, rfl⟩)
              have HDF := Lib.hid (show armF { armed y (-1) with out := true } 3 = { armed y (-1) with out := true } ∧ failF { armed y (-1) with out := true } 3 = { armed y (-1) with out := true } ∧ powE { armed y (-1) with out := true } = 9 from ⟨rfl, rfl, rfl⟩)
              clear hxd
              go_wp2_with fail
              refine (pending_duo k y.loose.length H9.out.swap.1 HR.out.okY (by omega) rfl).mono ?_
              rintro e w10 ⟨ao1, c1, rfl, _, hd⟩
              have H10 := Lib.hid (H9.out.swap.did hd).swap
              have HR10 := Lib.hid (rangeW_blk H10.out.hd)
              clear hd H9
              go_wp2_with (with_reducible refine wpList_load_any rfl 49 (.tmp 9) rfl wr.heap.size 0 rfl (actC a (.slice ka klen kcp)) _ HR10.out Try.underlying49 rfl HIA.out ?_)
              refine (act_duo a ka klen kcp k _ _ _ H10.out.1 HXK.out (by omega) (HA.out.below H10.out.b) (by omega) HRel.out.1 HRel.out.2.1 HRel.out.2.2).mono ?_
              rintro e w11 ⟨rfl, hd⟩
              have H11 := Lib.hid (H10.out.did hd)
              have HR11 := Lib.hid (rangeW_blk H11.out.hd)
              clear hd H10
              go_wp2_with (first
                | ((with_reducible refine wpList_alloc_blk w11 rfl 39 rfl (ofK .u8 zer) Try.zeroBl ?_); intro w12 hb hbel hsz; have H12 := Lib.hid (H11.out.new hb hbel hsz); clear hb hbel hsz)
                | ((with_reducible refine wpList_store_blk w12 rfl 39 (.tmp 13) (.tmp 74) rfl w11.heap.size 39 (ofK .u8 zer) (ofK .u8 zer) H12.out.hd rfl rfl rfl HZ.out (one_ofK _ _) ?_); intro w13 hb hc hs; have H13 := Lib.hid (H12.out.put hb hc); clear hb hc hs))
              refine (dead_duo true H13.out.1 rfl).mono ?_
              rintro e w' ⟨rfl, rfl⟩
              go_wp2_with fail
              refine (ops_duo y.ops H13.out.1 rfl).mono ?_
              rintro e w' ⟨rfl, rfl⟩
              go_wp2_with fail
              refine (ops_duo y.ops H13.out.swap.1 rfl).mono ?_
              rintro e w' ⟨rfl, rfl⟩
              go_wp2_with fail
              refine (pending_duo (k + 1) y.loose.length H13.out.1 HXD.out (by omega) rfl).mono ?_
              rintro e w14 ⟨ao2, c2, rfl, _, hd⟩
              have H14 := Lib.hid (H13.out.did hd)
              have HR14 := Lib.hid (rangeW_blk H14.out.hd2)
              clear hd H13
              go_wp2_with (with_reducible refine wpList_load_any rfl 49 (.tmp 9) rfl wr.heap.size 0 rfl (actC a (.slice ka klen kcp)) _ HR14.out Try.underlying49 rfl HIA.out ?_)
              refine (act_duo a ka klen kcp (k + 1) _ _ _ H14.out.1 HXD.out (by omega) (HA.out.below H14.out.b) (by omega) HDA.out.1 HDA.out.2.1 HDA.out.2.2).mono ?_
              rintro e w15 ⟨rfl, hd⟩
              have H15 := Lib.hid (H14.out.did hd)
              clear hd H14
              go_wp2_with (first
                | ((with_reducible refine wpList_alloc_blk w15 rfl 39 rfl (ofK .u8 zer) Try.zeroBl ?_); intro w16 hb hbel hsz; have H16 := Lib.hid (H15.out.new hb hbel hsz); clear hb hbel hsz)
                | ((with_reducible refine wpList_store_blk w16 rfl 39 (.tmp 16) (.tmp 103) rfl w15.heap.size 39 (ofK .u8 zer) (ofK .u8 zer) H16.out.hd rfl rfl rfl HZ.out (one_ofK _ _) ?_); intro w17 hb hc hs; have H17 := Lib.hid (H16.out.put hb hc); clear hb hc hs))
              refine (read_duo 0 zer 9 (k + 1) _ H17.out.1 HXD.out (by omega) HDR.out.1 HDR.out.2.1 HDR.out.2.2).mono ?_
              rintro e w18 ⟨rfl, hd⟩
              have H18 := Lib.hid (H17.out.did hd)
              clear hd H17
              go_wp2_with (first
                | ((with_reducible refine wpList_alloc_blk w18 rfl 39 rfl (ofK .u8 zer) Try.zeroBl ?_); intro w19 hb hbel hsz; have H19 := Lib.hid (H18.out.new hb hbel hsz); clear hb hbel hsz)
                | ((with_reducible refine wpList_store_blk w19 rfl 39 (.tmp 18) (.tmp 108) rfl w18.heap.size 39 (ofK .u8 zer) (ofK .u8 zer) H19.out.hd rfl rfl rfl HZ.out (one_ofK _ _) ?_); intro w20 hb hc hs; have H20 := Lib.hid (H19.out.put hb hc); clear hb hc hs))
              refine (arm_duo 3 9 _ H20.out.1 HDF.out.1 HDF.out.2.2).mono ?_
              rintro e w21 ⟨rfl, hd⟩
              have H21 := Lib.hid (H20.out.did hd)
              clear hd H20
              go_wp2_with fail
              refine (fail_duo 3 9 _ H21.out.1 HDF.out.2.1 HDF.out.2.2).mono ?_
              rintro e w22 ⟨rfl, hd⟩
              have H22 := Lib.hid (H21.out.did hd)
              clear hd H21
              go_wp2_with fail
              refine (dead_duo true H22.out.1 rfl).mono ?_
              rintro e w' ⟨rfl, rfl⟩
              go_wp2_with fail
              refine (ops_duo y.ops H22.out.1 rfl).mono ?_
              rintro e w' ⟨rfl, rfl⟩
              go_wp2_with fail
              refine (ops_duo y.ops H22.out.swap.1 rfl).mono ?_
              rintro e w' ⟨rfl, rfl⟩
              go_wp2_with fail
              go_ret
              exact ⟨rfl, H22.out.b⟩
            · have HRel := Lib.hid (armed_lays (L := L) HR.out.idle HR.out.size hq (by omega) hl)
              go_wp2_with (with_reducible refine wpList_load_any rfl 49 (.tmp 9) rfl wr.heap.size 0 rfl (actC a (.slice ka klen kcp)) _ HR8.out Try.underlying49 rfl HIA.out ?_)
              refine (there_duo a _ true H8.out.1 ht).mono ?_
              rintro e w9 ⟨rfl, hd⟩
              have H9 := Lib.hid (H8.out.did hd)
              have HR9 := Lib.hid (rangeW_blk H9.out.hd)
              clear hd H8
              have HIY := Lib.hid (isB_act HR.out.okY a)
              have HE := Lib.hid (fun w => eq_blocks w (actB y a) (actB y a) true HIY.out HIY.out (decide_eq_true rfl))
              have HLB := Lib.hid (lenB' HIY.out)
              have HIB := Lib.hid (infoB HIY.out)
              have HN := Lib.hid (show (actF y a).ops = (actF y a).ops ∧ (armed (actF y a) (L - 1)).out = false from ⟨rfl, (idle_act HR.out.idle HR.out.size hq).1.out⟩)
              go_wp2_with (with_reducible refine wpList_load_any rfl 49 (.tmp 9) rfl wr.heap.size 0 rfl (actC a (.slice ka klen kcp)) _ HR9.out Try.underlying49 rfl HIA.out ?_)
              refine (act_duo a ka klen kcp k _ _ _ H9.out.1 HXK.out (by omega) (HA.out.below H9.out.b) (by omega) HRel.out.1 HRel.out.2.1 HRel.out.2.2).mono ?_
              rintro e w10 ⟨rfl, hd⟩
              have H10 := Lib.hid (H9.out.did hd)
              have HR10 := Lib.hid (rangeW_blk H10.out.hd)
              clear hd H9
              go_wp2_with (first
                | ((with_reducible refine wpList_alloc_blk w10 rfl 39 rfl (ofK .u8 zer) Try.zeroBl ?_); intro w11 hb hbel hsz; have H11 := Lib.hid (H10.out.new hb hbel hsz); clear hb hbel hsz)
                | ((with_reducible refine wpList_store_blk w11 rfl 39 (.tmp 21) (.tmp 145) rfl w10.heap.size 39 (ofK .u8 zer) (ofK .u8 (actB y a)) H11.out.hd rfl rfl HLB.out HIB.out (one_ofK _ _) ?_); intro w12 hb hc hs; have H12 := Lib.hid (H11.out.put hb hc); have HR12 := Lib.hid (rangeW_blk H12.out.hd2); clear hb hc hs)
                | (with_reducible refine wpList_load_any rfl 49 (.tmp 9) rfl wr.heap.size 0 rfl (actC a (.slice ka klen kcp)) _ HR12.out Try.underlying49 rfl HIA.out ?_))
              refine (act_duo2 a ka klen kcp k _ _ _ H12.out.1 HR.out.okY (by omega) (HA.out.below H12.out.b) (by omega) rfl rfl rfl).mono ?_
              rintro e w13 ⟨rfl, hd⟩
              have H13 := Lib.hid (H12.out.did hd)
              have HS13 := Lib.hid (rangeW_blk H13.out.hd)
              clear hd H12
              go_wp2_with (first
                | ((with_reducible refine wpList_alloc_blk w13 rfl 39 rfl (ofK .u8 zer) Try.zeroBl ?_); intro w14 hb hbel hsz; have H14 := Lib.hid (H13.out.new hb hbel hsz); clear hb hbel hsz)
                | ((with_reducible refine wpList_store_blk w14 rfl 39 (.tmp 24) (.tmp 152) rfl w13.heap.size 39 (ofK .u8 zer) (ofK .u8 (actB y a)) H14.out.hd rfl rfl HLB.out HIB.out (one_ofK _ _) ?_); intro w15 hb hc hs; have H15 := Lib.hid (H14.out.put hb hc); have HS15 := Lib.hid (rangeW_blk H15.out.hd2); have HT15 := Lib.hid (rangeW_blk H15.out.hd); have he := HE.out; clear hb hc hs)
                | (with_reducible refine wpList_load_any rfl 39 (.tmp 21) rfl w10.heap.size 0 rfl (ofK .u8 (actB y a)) _ HS15.out Try.underlying39 rfl HIB.out ?_)
                | (with_reducible refine wpList_load_any rfl 39 (.tmp 24) rfl w13.heap.size 0 rfl (ofK .u8 (actB y a)) _ HT15.out Try.underlying39 rfl HIB.out ?_))
              refine (dead_duo false H15.out.1 HN.out.2).mono ?_
              rintro e w' ⟨rfl, rfl⟩
              go_wp2_with fail
              refine (ops_duo (actF y a).ops H15.out.1 rfl).mono ?_
              rintro e w' ⟨rfl, rfl⟩
              go_wp2_with fail
              refine (ops_duo (actF y a).ops H15.out.swap.1 rfl).mono ?_
              rintro e w' ⟨rfl, rfl⟩
              go_wp2_with fail
              go_roundw
              case rel => exact ⟨k + 1, (L - 1), by omega, by go_num, by go_num, Lib.hid ⟨_, Env.of H15.out.end, (idle_act HR.out.idle HR.out.size hq).1, (idle_act HR.out.idle HR.out.size hq).2.1, actF_ok HR.out.okY HA.out, by omega, by omega⟩⟩
              case measure => simp [intOf]; omega
          · have ht : thereB a = false := by simpa using ht
            have hl : laysB a = false := by simp [laysB, ht]
            have HRel := Lib.hid (armed_idles (L := L) HR.out.idle HR.out.size hq hl)
            go_wp2_with (with_reducible refine wpList_load_any rfl 49 (.tmp 9) rfl wr.heap.size 0 rfl (actC a (.slice ka klen kcp)) _ HR8.out Try.underlying49 rfl HIA.out ?_)
            refine (there_duo a _ false H8.out.1 ht).mono ?_
            rintro e w9 ⟨rfl, hd⟩
            have H9 := Lib.hid (H8.out.did hd)
            have HR9 := Lib.hid (rangeW_blk H9.out.hd)
            clear hd H8
            have HIY := Lib.hid (isB_act HR.out.okY a)
            have HE := Lib.hid (fun w => eq_blocks w (actB y a) (actB y a) true HIY.out HIY.out (decide_eq_true rfl))
            have HLB := Lib.hid (lenB' HIY.out)
            have HIB := Lib.hid (infoB HIY.out)
            have HN := Lib.hid (show (actF y a).ops = (actF y a).ops ∧ (armed (actF y a) L).out = false from ⟨rfl, (idle_act HR.out.idle HR.out.size hq).1.out⟩)
            go_wp2_with (with_reducible refine wpList_load_any rfl 49 (.tmp 9) rfl wr.heap.size 0 rfl (actC a (.slice ka klen kcp)) _ HR9.out Try.underlying49 rfl HIA.out ?_)
            refine (act_duo a ka klen kcp k _ _ _ H9.out.1 HXK.out (by omega) (HA.out.below H9.out.b) (by omega) HRel.out.1 HRel.out.2.1 HRel.out.2.2).mono ?_
            rintro e w10 ⟨rfl, hd⟩
            have H10 := Lib.hid (H9.out.did hd)
            have HR10 := Lib.hid (rangeW_blk H10.out.hd)
            clear hd H9
            go_wp2_with (first
              | ((with_reducible refine wpList_alloc_blk w10 rfl 39 rfl (ofK .u8 zer) Try.zeroBl ?_); intro w11 hb hbel hsz; have H11 := Lib.hid (H10.out.new hb hbel hsz); clear hb hbel hsz)
              | ((with_reducible refine wpList_store_blk w11 rfl 39 (.tmp 21) (.tmp 145) rfl w10.heap.size 39 (ofK .u8 zer) (ofK .u8 (actB y a)) H11.out.hd rfl rfl HLB.out HIB.out (one_ofK _ _) ?_); intro w12 hb hc hs; have H12 := Lib.hid (H11.out.put hb hc); have HR12 := Lib.hid (rangeW_blk H12.out.hd2); clear hb hc hs)
              | (with_reducible refine wpList_load_any rfl 49 (.tmp 9) rfl wr.heap.size 0 rfl (actC a (.slice ka klen kcp)) _ HR12.out Try.underlying49 rfl HIA.out ?_))
            refine (act_duo2 a ka klen kcp k _ _ _ H12.out.1 HR.out.okY (by omega) (HA.out.below H12.out.b) (by omega) rfl rfl rfl).mono ?_
            rintro e w13 ⟨rfl, hd⟩
            have H13 := Lib.hid (H12.out.did hd)
            have HS13 := Lib.hid (rangeW_blk H13.out.hd)
            clear hd H12
            go_wp2_with (first
              | ((with_reducible refine wpList_alloc_blk w13 rfl 39 rfl (ofK .u8 zer) Try.zeroBl ?_); intro w14 hb hbel hsz; have H14 := Lib.hid (H13.out.new hb hbel hsz); clear hb hbel hsz)
              | ((with_reducible refine wpList_store_blk w14 rfl 39 (.tmp 24) (.tmp 152) rfl w13.heap.size 39 (ofK .u8 zer) (ofK .u8 (actB y a)) H14.out.hd rfl rfl HLB.out HIB.out (one_ofK _ _) ?_); intro w15 hb hc hs; have H15 := Lib.hid (H14.out.put hb hc); have HS15 := Lib.hid (rangeW_blk H15.out.hd2); have HT15 := Lib.hid (rangeW_blk H15.out.hd); have he := HE.out; clear hb hc hs)
              | (with_reducible refine wpList_load_any rfl 39 (.tmp 21) rfl w10.heap.size 0 rfl (ofK .u8 (actB y a)) _ HS15.out Try.underlying39 rfl HIB.out ?_)
              | (with_reducible refine wpList_load_any rfl 39 (.tmp 24) rfl w13.heap.size 0 rfl (ofK .u8 (actB y a)) _ HT15.out Try.underlying39 rfl HIB.out ?_))
            refine (dead_duo false H15.out.1 HN.out.2).mono ?_
            rintro e w' ⟨rfl, rfl⟩
            go_wp2_with fail
            refine (ops_duo (actF y a).ops H15.out.1 rfl).mono ?_
            rintro e w' ⟨rfl, rfl⟩
            go_wp2_with fail
            refine (ops_duo (actF y a).ops H15.out.swap.1 rfl).mono ?_
            rintro e w' ⟨rfl, rfl⟩
            go_wp2_with fail
            go_roundw
            case rel => exact ⟨k + 1, L, by omega, by go_num, by go_num, Lib.hid ⟨_, Env.of H15.out.end, (idle_act HR.out.idle HR.out.size hq).1, (idle_act HR.out.idle HR.out.size hq).2.1, actF_ok HR.out.okY HA.out, by omega, by omega⟩⟩
            case measure => simp [intOf]; omega
      · have hb : decide (kindF a.kind < 3) = false := decide_eq_false hq
        refine (asks_duo a _ false H6.out.1 hb).mono ?_
        rintro e w7 ⟨rfl, hd⟩
        have H7 := Lib.hid (H6.out.did hd)
        clear hd H6
        clear hb H5 HR6 HC
        go_wp2_with fail
        go_roundw
        case rel => exact ⟨k + 1, L, by omega, rfl, by go_num, Lib.hid ⟨y, Env.of H7.out.end, HR.out.idle, HR.out.size, HR.out.okY.mono (by omega), by omega, by omega⟩⟩
        case measure => simp [intOf]; omega
    · obtain rfl : k = m := by omega
      have hce : contentL (armed y L) = contentL y := contentL_eq rfl rfl rfl
      have HEF := Lib.hid (fun w => eq_five w (contentL y) (contentL_len HR.out.okY))
      have HC := Lib.hid hce
      clear hce hlt
      go_wp2_with fail
      refine (content_duo k _ HR.out.env.1 HXK.out (by omega) HR.out.size HC.out).mono ?_
      rintro e w5 ⟨rfl, hd⟩
      have H5 := Lib.hid (HR.out.env.did hd)
      clear hd
      go_wp2_with fail
      refine (content_duo k _ H5.out.swap.1 HR.out.okY (by omega) HR.out.size rfl).mono ?_
      rintro e w6 ⟨rfl, hd⟩
      have H6 := Lib.hid ((H5.out.swap.did hd).swap)
      have he := HEF.out
      clear hd H5
      go_wp2_with fail
      go_ret
      exact ⟨rfl, H6.out.b⟩

end Go.Proofs.Yticcjaccpcnjhaa
