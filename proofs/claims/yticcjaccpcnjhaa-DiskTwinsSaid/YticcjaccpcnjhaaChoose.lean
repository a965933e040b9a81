/-
  DiskChooses, walked. Conditions: none.
-/
import Derived.Test.YticcjaccpcnjhaaChooseP
namespace Go.Proofs.Yticcjaccpcnjhaa
open Go Go.RowKit
set_option linter.unusedSimpArgs false

structure ChoI (w wr : World) (p q : Nat) (k : Nat) (lv : Value) (ls : List Ac) (x y : Dk) : Prop where
  env : EnvL w wr p x (some (q, y)) lv ls []
  idleX : Idle x
  idleY : Idle y
  sizeX : x.size = 5
  sizeY : y.size = 5
  okX : x.Ok k
  okY : y.Ok (61 * k)
  loose : x.loose = wrsOf ls
  hold : ∀ j, y.holds j = x.firm j
  acts : ∀ e ∈ ls, (kindF e.1.kind = 1 ∧ thereB e.1 = true) ∧ ∃ ao len cp, e.2 = .slice ao len cp ∧ ActOk w e.1 e.2
  len : ls.length ≤ k

theorem cho_0 {x : Dk} (h : Idle x) (h5 : x.size = 5) {a : ActD} (hk : kindF a.kind = 0) (ht : thereB a = true) : actF x a = { x with ops := x.ops + 1 } := by
  have hr := (there_iff (a := a) (by omega)).1 ht
  rw [show actF x a = readD x a.at_ by simp [actF, hk]]
  exact idle_read h hr.1 (by omega)
theorem cho_1 {x : Dk} (h : Idle x) (h5 : x.size = 5) {a : ActD} (kv : Value) (hk : kindF a.kind = 1) (ht : thereB a = true) : actF x a = { x with loose := x.loose ++ [wrOf (a, kv)], ops := x.ops + 1 } := by
  have hr := (there_iff (a := a) (by omega)).1 ht
  rw [show actF x a = writeD x a.at_ (fil a.fill) by simp [actF, hk]]
  exact idle_write h _ hr.1 (by omega)
theorem cho_2 {x : Dk} (h : Idle x) (h5 : x.size = 5) {a : ActD} (hk : kindF a.kind = 2) : actF x a = { settleD (fun _ => true) x with ops := x.ops + 1 } := by
  rw [show actF x a = syncD x by simp [actF, hk]]
  exact idle_sync h (by omega)

theorem ChoI.same {w wr wr' : World} {p q k : Nat} {lv : Value} {ls : List Ac} {x y : Dk} (h : ChoI w wr p q k lv ls x y) (he : EnvL w wr' p x (some (q, y)) lv ls []) : ChoI w wr' p q (k + 1) lv ls x y :=
  { h with env := he, okX := h.okX.mono (by omega), okY := h.okY.mono (by omega), len := by have := h.len; omega }

/-- the twin, while a part of the writes is done to it -/
structure TwiI (w wr : World) (p q : Nat) (n : Nat) (f : Int → List Int) (lv : Value) (ls : List Ac) (x y : Dk) : Prop where
  env : EnvL w wr p x (some (q, y)) lv ls []
  idle : Idle y
  size : y.size = 5
  ok : y.Ok n
  hold : ∀ j, y.holds j = f j

theorem TwiI.step {w wr wr' : World} {p q n : Nat} {f : Int → List Int} {lv : Value} {ls : List Ac} {x y : Dk} (h : TwiI w wr p q n f lv ls x y) {a : ActD} {kv : Value} (hk : kindF a.kind = 1) (ht : thereB a = true) (ha : ActOk w a kv) (he : EnvL w wr' p x (some (q, actF y a)) lv ls []) :
    TwiI w wr' p q (n + 1) (lay f (wrOf (a, kv))) lv ls x (actF y a) :=
  ⟨he, (idle_act h.idle h.size (by omega)).1, (idle_act h.idle h.size (by omega)).2.1, actF_ok h.ok ha, fun j => by rw [cho_1 h.idle h.size kv hk ht, holds_snoc]; exact lay_congr h.hold _ j⟩

theorem Try.infoAct3 : (Try.prog.info? 49).map (fun i => (i.zero, i.size, i.bytes)) = some (some (.agg actZ.toArray), 5, 56) := by kernel_rfl
theorem Try.sizeAct : ∀ w, (sizeOf 49).run Try.prog w = .ok 5 w := fun w => by kernel_rfl
theorem Try.five1 : 0 < 5 := by omega
theorem Try.five2 : 5 ≤ 16777216 := by omega

theorem wrsOf_getD {ls : List Ac} {j : Nat} (hj : j < ls.length) : (wrsOf ls).getD j (0, zer) = wrOf ls[j] := by
  rw [List.getD_eq_getElem?_getD, wrsOf, List.getElem?_map, List.getElem?_eq_getElem hj]; rfl

theorem sl_bools_at {w : World} {ko : Option Addr} {n kc : Nat} {keep : List Bool} (h : Sl w (.slice ko n kc) (keep.map Value.bool)) : 0 < keep.length → ∃ b o, ko = some ⟨b, o, none⟩ ∧ ∀ i (hi : i < keep.length), w.cell? ⟨b, o + i, none⟩ = some (.bool keep[i]) := by
  intro h0
  rcases h with ⟨_, h⟩ | ⟨ad, c, he, _, _, hc⟩
  · have := congrArg List.length h; simp at this; simp [this] at h0
  · obtain ⟨b, o, sp⟩ := ad
    have hc0 := hc 0 _ (by rw [List.getElem?_map, List.getElem?_eq_getElem h0]; rfl)
    have hsp : sp = none := by simpa [Addr.add] using World.cell?_spot hc0
    subst hsp
    have hk : ko = some ⟨b, o, none⟩ := by simp at he; exact he.1
    refine ⟨b, o, hk, fun i hi => ?_⟩
    have := hc i (.bool keep[i]) (by rw [List.getElem?_map, List.getElem?_eq_getElem hi]; rfl)
    rwa [add_none] at this

set_option maxRecDepth 100000 in
set_option maxHeartbeats 16000000 in
theorem diskChooses_walk (v0 : Value) (l : List (ActD × Value)) (ko : Option Addr) (kc : Nat) (keep : List Bool) (w : World) (s : SlA w v0 l) (sk : Sl w (.slice ko keep.length kc) (keep.map Value.bool)) (hkl : keep.length ≤ 140737488351232) : Calls Try.prog 6 #[v0, .slice ko keep.length kc] w (TrueP w) := by
  obtain ⟨ao, cp, rfl, hlc, hc63, hcells, hoks⟩ := s
  have HS := Lib.hid (And.intro hcells hoks)
  have HK := Lib.hid (And.intro sk hkl)
  obtain ⟨i0, hi0', hz0, hz1, hz2⟩ := info_parts Try.infoAct3
  have HI0 := Lib.hid (And.intro hi0' (And.intro hz0 (And.intro hz1 hz2)))
  clear hcells hoks sk hkl hi0' hz0 hz1 hz2
  go_enter Try.func6, Try.ntmps6
  go_wp2_with fail
  refine (wakes_any w).mono ?_
  rintro e w1 ⟨rfl, hb1⟩
  go_wp2_with fail
  refine (blank_any w1).mono ?_
  rintro e w2 ⟨p, rfl, hd2, hb2⟩
  have H2 := Lib.hid (And.intro hb1 (And.intro hd2 hb2))
  clear hb1 hd2 hb2
  go_wp2_with fail
  refine (blank_any w2).mono ?_
  rintro e w3 ⟨q, rfl, hd3, hb3⟩
  have H3 := Lib.hid (EnvL.of (duo_start H2.out.1 H2.out.2.1 H2.out.2.2 hd3 hb3).end)
  clear hd3 hb3 H2
  go_wp2_with fail
  refine (few_any ao l.length cp w3 hlc hc63).mono ?_
  rintro e w' ⟨rfl, rfl⟩
  obtain ⟨m, hm⟩ : ∃ m, m = min l.length 60 := ⟨_, rfl⟩
  rw [← hm]
  have hm60 : m ≤ 60 := by omega
  have HM := Lib.hid (show m ≤ l.length by omega)
  clear hm
  go_wp2_with fail
  go_loopw [7, 36] (fun u c wr => ∃ (k : Nat) (lv : Value), k ≤ m ∧ u = lv ∧ c = .int .i64 k ∧ Hid (∃ ls x y, ChoI w wr p q k lv ls x y)) (fun _ c _ => m - (intOf c).toNat)
  case atStart => exact ⟨0, _, by omega, rfl, rfl, Lib.hid ⟨[], _, _, H3.out, idle_new 5, idle_new 5, rfl, rfl, newD_ok (n := 5) (by omega) (by omega) 0, newD_ok (n := 5) (by omega) (by omega) _, rfl, fun j => rfl, fun e he => by simp at he, Nat.le_refl _⟩⟩
  case round =>
    obtain ⟨k, lv, hk, rfl, rfl, HR⟩ := hrel
    obtain ⟨ls, x, y, HR⟩ := HR.out
    obtain ⟨lo, lc, rfl, hlcap, hlmax, hlat⟩ := own_acts HR.env.row
    have hll : ls.length ≤ k := HR.len
    replace HR := Lib.hid HR
    clear H3 hlat
    by_cases hlt : k < m
    · have hkl1 : k < l.length := by have := HM.out; omega
      obtain ⟨b, o, rfl, hcell⟩ := HS.out.1 (by omega)
      obtain ⟨ka, klen, kcp, hkv, hok⟩ := HS.out.2 l[k] (List.getElem_mem hkl1)
      have hcl := hcell k hkl1
      generalize l[k] = lk at hkv hok hcl
      obtain ⟨a, kv⟩ := lk
      simp only at hkv hok hcl
      subst hkv
      have HC := Lib.hid (rangeW_below hcl HR.out.env.b)
      have HA := Lib.hid hok
      have HIA := Lib.hid (infoA a (.slice ka klen kcp))
      have HLA := Lib.hid (lenA a (.slice ka klen kcp))
      have HOA := Lib.hid (oneA a ka klen kcp)
      clear hcl hok hcell
      have hk0 : (0 : Int) ≤ (k : Int) := by omega
      have hk1 : (k : Int) < (m : Int) := by omega
      go_wp2_with (first
        | (with_reducible refine wpList_load_any rfl 49 (.tmp 38) rfl b (o + k * 5) rfl (actC a (.slice ka klen kcp)) _ HC.out Try.underlying49 rfl HIA.out ?_)
        | ((with_reducible refine wpList_alloc_blk wr rfl 49 rfl actZ Try.zeroAct ?_); intro w5 hb hbel hsz; have H5 := Lib.hid (HR.out.env.new hb hbel hsz); clear hb hbel hsz)
        | ((with_reducible refine wpList_store_blk w5 rfl 49 (.tmp 9) (.tmp 39) rfl wr.heap.size 49 actZ (actC a (.slice ka klen kcp)) H5.out.hd rfl rfl HLA.out HIA.out HOA.out ?_); intro w6 hb hc hs; have H6 := Lib.hid (H5.out.put hb hc); have HR6 := Lib.hid (rangeW_blk hb); clear hb hc hs)
        | (with_reducible refine wpList_load_any rfl 49 (.tmp 9) rfl wr.heap.size 0 rfl (actC a (.slice ka klen kcp)) _ HR6.out Try.underlying49 rfl HIA.out ?_))
      by_cases hq : kindF a.kind < 3
      · have hb : decide (kindF a.kind < 3) = true := decide_eq_true hq
        refine (asks_duo a _ true H6.out.1 hb).mono ?_
        rintro e w7 ⟨rfl, hd⟩
        have H7 := Lib.hid (H6.out.did hd)
        have HR7 := Lib.hid (rangeW_blk H7.out.hd)
        clear hd H6
        clear hb H5 HR6 HC
        go_wp2_with (with_reducible refine wpList_load_any rfl 49 (.tmp 9) rfl wr.heap.size 0 rfl (actC a (.slice ka klen kcp)) _ HR7.out Try.underlying49 rfl HIA.out ?_)
        by_cases ht : thereB a = true
        · have HID := Lib.hid (idle_act HR.out.idleX HR.out.sizeX hq)
          have hE : actE x a = 0 := by rw [HID.out.2.2, if_pos ht]
          have HIY := Lib.hid (isB_act HR.out.okX a)
          have HLB := Lib.hid (lenB' HIY.out)
          have HIB := Lib.hid (infoB HIY.out)
          refine (there_duo a _ true H7.out.1 ht).mono ?_
          rintro e w8 ⟨rfl, hd⟩
          have H8 := Lib.hid (H7.out.did hd)
          have HR8 := Lib.hid (rangeW_blk H8.out.hd)
          clear hd H7
          go_wp2_with (with_reducible refine wpList_load_any rfl 49 (.tmp 9) rfl wr.heap.size 0 rfl (actC a (.slice ka klen kcp)) _ HR8.out Try.underlying49 rfl HIA.out ?_)
          refine (act_duo a ka klen kcp k _ _ 0 H8.out.1 HR.out.okX (by omega) (HA.out.below H8.out.b) (by omega) rfl rfl hE).mono ?_
          rintro e w9 ⟨rfl, hd⟩
          have H9 := Lib.hid (H8.out.did hd)
          clear hd H8
          go_wp2_with (first
            | ((with_reducible refine wpList_alloc_blk w9 rfl 39 rfl (ofK .u8 zer) Try.zeroBl ?_); intro w10 hb hbel hsz; have H10 := Lib.hid (H9.out.new hb hbel hsz); clear hb hbel hsz)
            | ((with_reducible refine wpList_store_blk w10 rfl 39 (.tmp 11) (.tmp 53) rfl w9.heap.size 39 (ofK .u8 zer) (ofK .u8 (actB x a)) H10.out.hd rfl rfl HLB.out HIB.out (one_ofK _ _) ?_); intro w11 hb hc hs; have H11 := Lib.hid (H10.out.put hb hc); have HR11 := Lib.hid (rangeW_blk H11.out.hd2); clear hb hc hs)
            | (with_reducible refine wpList_load_any rfl 49 (.tmp 9) rfl wr.heap.size 0 rfl (actC a (.slice ka klen kcp)) _ HR11.out Try.underlying49 rfl HIA.out ?_))
          rcases kind3 hq with hK | hK | hK
          · have hx := cho_0 HR.out.idleX HR.out.sizeX hK ht
            refine (kind_duo a _ 0 H11.out.1 hK).mono ?_
            rintro e w12 ⟨rfl, hd⟩
            have H12 := Lib.hid (H11.out.did hd)
            have HR12 := Lib.hid (rangeW_blk H12.out.hd2)
            clear hd H11
            go_wp2_with fail
            go_roundw
            case rel => exact ⟨k + 1, _, by omega, rfl, by go_num, Lib.hid ⟨ls, _, y, H12.out.bare, HID.out.1, HR.out.idleY, HID.out.2.1, HR.out.sizeY, actF_ok HR.out.okX HA.out, HR.out.okY.mono (by omega), by rw [hx]; exact HR.out.loose, by rw [hx]; exact HR.out.hold, HR.out.acts, by omega⟩⟩
            case measure => simp [intOf]; omega
          · have hx := cho_1 HR.out.idleX HR.out.sizeX (.slice ka klen kcp) hK ht
            refine (kind_duo a _ 1 H11.out.1 hK).mono ?_
            rintro e w12 ⟨rfl, hd⟩
            have H12 := Lib.hid (H11.out.did hd)
            have HR12 := Lib.hid (rangeW_blk H12.out.hd2)
            clear hd H11
            have HL5 := Lib.hid (show (actC a (.slice ka klen kcp)).length = 1 * 5 from rfl)
            go_wp2_with (first
              | (with_reducible refine wpList_load_any rfl 49 (.tmp 9) rfl wr.heap.size 0 rfl (actC a (.slice ka klen kcp)) _ HR12.out Try.underlying49 rfl HIA.out ?_)
              | ((with_reducible refine wpList_slice_one w12 rfl 22 (.tmp 62) rfl Try.underlying22 Try.sizeAct Try.zeroAct Try.five1 Try.five2 (actC a (.slice ka klen kcp)) HL5.out rfl ?_); intro w13 hb hbel hsz; have H13 := Lib.hid (And.intro (H12.out.bare.below hbel) hb); have HB13 := Lib.hid (show w.heap.size ≤ w13.heap.size from H13.out.1.b.size); clear hb hbel hsz)
              | (at_builtin; refine wpList_append_lies w13 rfl (.tmp 61) (.tmp 63) 22 rfl w.heap.size 49 i0 _ 5 56 Try.underlying22 HI0.out.1 HI0.out.2.1 HI0.out.2.2.1 HI0.out.2.2.2 rfl Try.five1 (.slice lo ls.length lc) ls.length (actsC ls) rfl H13.out.1.row ⟨w12.heap.size, 0, none⟩ 1 1 (actC a (.slice ka klen kcp)) rfl HL5.out (World.news_of_block (cs := (actC a (.slice ka klen kcp)).toArray) (t := 49) (fr := (0, 0)) H13.out.2) HOA.out (by omega) (by unfold maxLen; omega) (by omega) HB13.out w13.heap.size rfl ?_; intro g cap w14 hr hg ha hl; have H14 := Lib.hid (H13.out.1.push (a, (.slice ka klen kcp)) hr hg ha hl); clear hr hg ha hl))
            go_roundw
            case rel =>
              refine ⟨k + 1, _, by omega, rfl, by go_num, Lib.hid ⟨ls ++ [(a, .slice ka klen kcp)], _, y, H14.out, HID.out.1, HR.out.idleY, HID.out.2.1, HR.out.sizeY, actF_ok HR.out.okX HA.out, HR.out.okY.mono (by omega), by rw [hx, wrsOf, List.map_append]; show x.loose ++ _ = _; rw [HR.out.loose]; rfl, by rw [hx]; exact HR.out.hold, fun e he => ?_, by rw [List.length_append]; show ls.length + 1 ≤ _; omega⟩⟩
              rcases List.mem_append.1 he with he | he
              · exact HR.out.acts e he
              · obtain rfl : e = (a, .slice ka klen kcp) := by simpa using he
                exact ⟨⟨hK, ht⟩, ka, klen, kcp, rfl, HA.out⟩
            case measure => simp [intOf]; omega
          · have hx := cho_2 HR.out.idleX HR.out.sizeX hK
            refine (kind_duo a _ 2 H11.out.1 hK).mono ?_
            rintro e w12 ⟨rfl, hd⟩
            have H12 := Lib.hid (H11.out.did hd)
            have HR12 := Lib.hid (rangeW_blk H12.out.hd2)
            clear hd H11
            go_wp2_with fail
            have hf : ∀ i, (actF x a).firm i = sF (fun _ => true) x.firm (wrsOf ls) ls.length i := fun i => by
              rw [hx]; show sF _ x.firm x.loose x.loose.length i = _; rw [HR.out.loose]; simp [wrsOf]
            have hxl : (actF x a).loose = [] := by rw [hx]; rfl
            have HF := Lib.hid (And.intro hf hxl)
            have HE12 := Lib.hid H12.out.bare
            clear hx hf hxl H12 HR12 HIB HLB HIY hE HOA HLA HIA
            go_loopw [69] (fun cc wr => ∃ (j : Nat), j ≤ ls.length ∧ cc = .int .i64 j ∧ Hid (∃ y', TwiI w wr p q (61 * k + j) (sF (fun _ => true) x.firm (wrsOf ls) j) (.slice lo ls.length lc) ls (actF x a) y')) (fun cc _ => ls.length - (intOf cc).toNat)
            case atStart => exact ⟨0, by omega, rfl, Lib.hid ⟨y, HE12.out, HR.out.idleY, HR.out.sizeY, HR.out.okY, HR.out.hold⟩⟩
            case round =>
              obtain ⟨j, hj, rfl, HT⟩ := hrel
              obtain ⟨y', HT⟩ := HT.out
              obtain ⟨lo', lc', hle, _, _, hlat⟩ := own_acts HT.env.row
              obtain ⟨h1, h2⟩ : lo = lo' ∧ lc = lc' := by simpa using hle
              subst lo' lc'
              replace HT := Lib.hid HT
              clear HE12 hle
              by_cases hjl : j < ls.length
              · have hact := HR.out.acts ls[j] (List.getElem_mem hjl)
                have hW := wrsOf_getD hjl
                obtain ⟨g, rfl, hcell⟩ := hlat (by omega)
                have hcl := hcell j hjl
                generalize ls[j] = lj at hact hW hcl
                obtain ⟨a2, kv2⟩ := lj
                simp only at hact hcl
                obtain ⟨⟨hk1', ht1'⟩, kb, kbl, kbc, hkv2, hok2⟩ := hact
                subst hkv2
                have HC2 := Lib.hid hcl
                have HA2 := Lib.hid hok2
                have HIA2 := Lib.hid (infoA a2 (.slice kb kbl kbc))
                have HLA2 := Lib.hid (lenA a2 (.slice kb kbl kbc))
                have HOA2 := Lib.hid (oneA a2 kb kbl kbc)
                clear hcl hok2 hcell hlat
                have hj0 : (0 : Int) ≤ (j : Int) := by omega
                have hj1 : (j : Int) < (ls.length : Int) := by omega
                have HID2 := Lib.hid (idle_act HT.out.idle HT.out.size (a := a2) (by omega))
                have hE2 : actE y' a2 = 0 := by rw [HID2.out.2.2, if_pos ht1']
                have HB2 := Lib.hid (isB_act HT.out.ok a2)
                have HLB2 := Lib.hid (lenB' HB2.out)
                have HIB2 := Lib.hid (infoB HB2.out)
                go_wp2_with (first
                  | (with_reducible refine wpList_load_any rfl 49 (.tmp 71) rfl g (j * 5) rfl (actC a2 (.slice kb kbl kbc)) _ HC2.out Try.underlying49 rfl HIA2.out ?_)
                  | ((with_reducible refine wpList_alloc_blk wr rfl 49 rfl actZ Try.zeroAct ?_); intro w14 hb hbel hsz; have H14 := Lib.hid (HT.out.env.new hb hbel hsz); clear hb hbel hsz)
                  | ((with_reducible refine wpList_store_blk w14 rfl 49 (.tmp 14) (.tmp 72) rfl wr.heap.size 49 actZ (actC a2 (.slice kb kbl kbc)) H14.out.hd rfl rfl HLA2.out HIA2.out HOA2.out ?_); intro w15 hb hc hs; have H15 := Lib.hid (H14.out.put hb hc); have HR15 := Lib.hid (rangeW_blk hb); clear hb hc hs)
                  | (with_reducible refine wpList_load_any rfl 49 (.tmp 14) rfl wr.heap.size 0 rfl (actC a2 (.slice kb kbl kbc)) _ HR15.out Try.underlying49 rfl HIA2.out ?_))
                refine (act_duo2 a2 kb kbl kbc (61 * k + j) _ _ 0 H15.out.1 HT.out.ok (by omega) (HA2.out.below H15.out.b) (by omega) rfl rfl hE2).mono ?_
                rintro e w16 ⟨rfl, hd⟩
                have H16 := Lib.hid (H15.out.did hd)
                clear hd H15
                go_wp2_with (first
                  | ((with_reducible refine wpList_alloc_blk w16 rfl 39 rfl (ofK .u8 zer) Try.zeroBl ?_); intro w17 hb hbel hsz; have H17 := Lib.hid (H16.out.new hb hbel hsz); clear hb hbel hsz)
                  | ((with_reducible refine wpList_store_blk w17 rfl 39 (.tmp 16) (.tmp 78) rfl w16.heap.size 39 (ofK .u8 zer) (ofK .u8 (actB y' a2)) H17.out.hd rfl rfl HLB2.out HIB2.out (one_ofK _ _) ?_); intro w18 hb hc hs; have H18 := Lib.hid (H17.out.put hb hc); clear hb hc hs))
                go_roundw
                case rel => exact ⟨j + 1, by omega, by go_num, Lib.hid ⟨_, by
                  have := HT.out.step hk1' ht1' HA2.out H18.out.bare
                  unfold sF; rw [if_pos rfl, hW]; exact this⟩⟩
                case measure => simp [intOf]; omega
              · obtain rfl : j = ls.length := by omega
                go_wp2_with fail
                go_roundw
                case rel => exact ⟨k + 1, _, by omega, rfl, by go_num, Lib.hid ⟨[], actF x a, y', HT.out.env.nil, HID.out.1, HT.out.idle, HID.out.2.1, HT.out.size, actF_ok HR.out.okX HA.out, HT.out.ok.mono (by omega), HF.out.2, fun i => (HT.out.hold i).trans (HF.out.1 i).symm, fun e he => by simp at he, by simp⟩⟩
                case measure => simp [intOf]; omega
        · have ht : thereB a = false := by simpa using ht
          refine (there_duo a _ false H7.out.1 ht).mono ?_
          rintro e w8 ⟨rfl, hd⟩
          have H8 := Lib.hid (H7.out.did hd)
          clear hd H7
          go_wp2_with fail
          go_roundw
          case rel => exact ⟨k + 1, _, by omega, rfl, by go_num, Lib.hid ⟨ls, x, y, HR.out.same H8.out.bare⟩⟩
          case measure => simp [intOf]; omega
      · have hb : decide (kindF a.kind < 3) = false := decide_eq_false hq
        refine (asks_duo a _ false H6.out.1 hb).mono ?_
        rintro e w7 ⟨rfl, hd⟩
        have H7 := Lib.hid (H6.out.did hd)
        clear hd H6
        clear hb H5 HR6 HC
        go_wp2_with fail
        go_roundw
        case rel => exact ⟨k + 1, _, by omega, rfl, by go_num, Lib.hid ⟨ls, x, y, HR.out.same H7.out.bare⟩⟩
        case measure => simp [intOf]; omega
    · obtain rfl : k = m := by omega
      have hxl : x.loose.length = ls.length := by rw [HR.out.loose]; simp [wrsOf]
      clear hlt
      go_wp2_with fail
      refine (pending_duo k ls.length HR.out.env.duo HR.out.okX (by omega) hxl).mono ?_
      rintro e w5 ⟨aop, cpp, rfl, _, hd⟩
      have H5 := Lib.hid (HR.out.env.did hd)
      have HXL := Lib.hid hxl
      clear hd hxl
      go_wp2_with fail
      go_loopw [92] (fun cc wr => ∃ (j : Nat), j ≤ ls.length ∧ cc = .int .i64 j ∧ Hid (∃ y', TwiI w wr p q (61 * k + j) (sF (fun i => keep.getD i false) x.firm (wrsOf ls) j) (.slice lo ls.length lc) ls x y')) (fun cc _ => ls.length - (intOf cc).toNat)
      case atStart => exact ⟨0, by omega, rfl, Lib.hid ⟨y, H5.out, HR.out.idleY, HR.out.sizeY, HR.out.okY, HR.out.hold⟩⟩
      case round =>
        obtain ⟨j, hj, rfl, HT⟩ := hrel
        obtain ⟨y', HT⟩ := HT.out
        obtain ⟨lo', lc', hle, _, _, hlat⟩ := own_acts HT.env.row
        obtain ⟨h1, h2⟩ : lo = lo' ∧ lc = lc' := by simpa using hle
        subst lo' lc'
        replace HT := Lib.hid HT
        clear H5 hle
        by_cases hjl : j < ls.length
        · have hact := HR.out.acts ls[j] (List.getElem_mem hjl)
          have hW := wrsOf_getD hjl
          obtain ⟨g, rfl, hcell⟩ := hlat (by omega)
          have hcl := hcell j hjl
          generalize ls[j] = lj at hact hW hcl
          obtain ⟨a2, kv2⟩ := lj
          simp only at hact hcl
          obtain ⟨⟨hk1', ht1'⟩, kb, kbl, kbc, hkv2, hok2⟩ := hact
          subst hkv2
          have HC2 := Lib.hid hcl
          have HA2 := Lib.hid hok2
          have HIA2 := Lib.hid (infoA a2 (.slice kb kbl kbc))
          have HLA2 := Lib.hid (lenA a2 (.slice kb kbl kbc))
          have HOA2 := Lib.hid (oneA a2 kb kbl kbc)
          clear hcl hok2 hcell hlat
          have hj0 : (0 : Int) ≤ (j : Int) := by omega
          have hj1 : (j : Int) < (ls.length : Int) := by omega
          have HID2 := Lib.hid (idle_act HT.out.idle HT.out.size (a := a2) (by omega))
          have hE2 : actE y' a2 = 0 := by rw [HID2.out.2.2, if_pos ht1']
          have HB2 := Lib.hid (isB_act HT.out.ok a2)
          have HLB2 := Lib.hid (lenB' HB2.out)
          have HIB2 := Lib.hid (infoB HB2.out)
          go_wp2_with (first
            | (with_reducible refine wpList_load_any rfl 49 (.tmp 95) rfl g (j * 5) rfl (actC a2 (.slice kb kbl kbc)) _ HC2.out Try.underlying49 rfl HIA2.out ?_)
            | ((with_reducible refine wpList_alloc_blk wr rfl 49 rfl actZ Try.zeroAct ?_); intro w6 hb hbel hsz; have H6 := Lib.hid (HT.out.env.new hb hbel hsz); clear hb hbel hsz)
            | ((with_reducible refine wpList_store_blk w6 rfl 49 (.tmp 19) (.tmp 96) rfl wr.heap.size 49 actZ (actC a2 (.slice kb kbl kbc)) H6.out.hd rfl rfl HLA2.out HIA2.out HOA2.out ?_); intro w7 hb hc hs; have H7 := Lib.hid (H6.out.put hb hc); have HR7 := Lib.hid (rangeW_blk hb); clear hb hc hs))
          have H8 := Lib.hid (H7.out.below (Below.refl _ w7).drew)
          have hS0 := H8.out.hd.cell 1
          simp only [actC, List.getElem?_cons_succ, List.getElem?_cons_zero] at hS0
          refine wp_region_takes (fun w' => w'.cell? ⟨wr.heap.size, 1, none⟩ = some (.int .i64 a2.at_)) [0, 2, 5, 6] 4 (by kernel_rfl) rfl (by kernel_rfl) (by kernel_rfl) hS0 ?_
          iterate 4 (refine' HeldL.run ?_ ?_ ?_ ?_; rotate_left 2; (simp only [List.getElem?_toArray, List.getElem?_cons_zero, List.getElem?_cons_succ]; rfl); rfl; (rintro w' k0; go_simp; with_reducible rfl); simp only [Act.put, List.setIfInBounds_toArray, List.set_cons_zero, List.set_cons_succ])
          refine' wpAnyH_one 1 (by kernel_rfl) ?_ ?_; rotate_left; (simp only [List.getElem?_toArray, List.getElem?_cons_zero, List.getElem?_cons_succ]; rfl)
          try simp only [Act.put]
          go_wp2_with fail
          refine (pending_duo k ls.length H8.out.duo HR.out.okX (by omega) HXL.out).mono ?_
          rintro e w9 ⟨ao9, c9, rfl, hsl9, hd⟩
          have H9 := Lib.hid (H8.out.did hd)
          have hS9 := H9.out.hd.cell 1
          simp only [actC, List.getElem?_cons_succ, List.getElem?_cons_zero] at hS9
          obtain ⟨ao9', c9', he9, _, _, hc9⟩ := hsl9.nums
          have hwl : (wrAts x.loose).length = ls.length := by rw [wrAts, List.length_map]; exact HXL.out
          obtain ⟨rfl, -, rfl⟩ : ao9 = ao9' ∧ ls.length = (wrAts x.loose).length ∧ c9 = c9' := by simpa using he9
          obtain ⟨g9, o9, rfl, _, hcell9⟩ := hc9 (by omega)
          have hc9j := hcell9 j (by omega)
          have hat9 : (wrAts x.loose)[j]'(by omega) = a2.at_ := by
            have h1 : (wrsOf ls)[j]? = some (wrOf (a2, .slice kb kbl kbc)) := by
              have := hW; rw [List.getD_eq_getElem?_getD] at this
              have hl : j < (wrsOf ls).length := by simp [wrsOf]; exact hjl
              rw [List.getElem?_eq_getElem hl] at this ⊢; exact congrArg some this
            have h2 : (wrAts x.loose)[j]? = some a2.at_ := by rw [wrAts, HR.out.loose, List.getElem?_map, h1]; rfl
            exact (List.getElem?_eq_some_iff.1 h2).2
          rw [hat9] at hc9j
          clear hd H8 hS0 hsl9 he9 hc9 hcell9 hat9 hwl
          go_wp2_with fail
          refine QK.normal ⟨hS9, ?_⟩
          refine' wpAnyH_one 3 (by kernel_rfl) ?_ ?_; rotate_left; (simp only [List.getElem?_toArray, List.getElem?_cons_zero, List.getElem?_cons_succ]; rfl)
          try simp only [Act.put]
          go_wp2_with fail
          refine QK.normal ⟨hS9, ?_⟩
          refine' wpAnyH_one 4 (by kernel_rfl) ?_ ?_; rotate_left; (simp only [List.getElem?_toArray, List.getElem?_cons_zero, List.getElem?_cons_succ]; rfl)
          try simp only [Act.put]
          go_wp2_with fail
          refine QK.normal ⟨hS9, ?_⟩
          refine' wpAnyH_one 7 (by kernel_rfl) ?_ ?_; rotate_left; (simp only [List.getElem?_toArray, List.getElem?_cons_zero, List.getElem?_cons_succ]; rfl)
          try simp only [Act.put]
          go_wp2_with fail
          refine QK.normal ⟨hS9, ?_⟩
          refine wpAnyH_done (by kernel_rfl) ?_ _
          refine NoPanic.normal ?_
          try simp only [Act.put]
          have H11 := H9
          have HR11 := Lib.hid (rangeW_blk H11.out.hd)
          clear H6 H7 H9 hS9 hc9j
          by_cases hkj : j < keep.length
          · obtain ⟨kb1, ko1, rfl, hkc⟩ := sl_bools_at HK.out.1 (by omega)
            have hkc := (H11.out.b.cell (p := ⟨kb1, ko1 + j, none⟩) (block_of_cell (hkc j hkj))).trans (hkc j hkj)
            have hkd : keep.getD j false = keep[j] := by rw [List.getD_eq_getElem?_getD, List.getElem?_eq_getElem hkj]; rfl
            have hj2 : (j : Int) < (keep.length : Int) := by omega
            cases hkv : keep[j]
            · rw [hkv] at hkd hkc
              go_wp2_with fail
              go_roundw
              case rel => exact ⟨j + 1, by omega, by go_num, Lib.hid ⟨y', H11.out.bare, HT.out.idle, HT.out.size, HT.out.ok.mono (by omega), by unfold sF; rw [if_neg (by rw [hkd]; simp)]; exact HT.out.hold⟩⟩
              case measure => simp [intOf]; omega
            · rw [hkv] at hkd hkc
              go_wp2_with (with_reducible refine wpList_load_any rfl 49 (.tmp 19) rfl wr.heap.size 0 rfl (actC a2 (.slice kb kbl kbc)) _ HR11.out Try.underlying49 rfl HIA2.out ?_)
              refine (act_duo2 a2 kb kbl kbc (61 * k + j) _ _ 0 H11.out.1 HT.out.ok (by omega) (HA2.out.below H11.out.b) (by omega) rfl rfl hE2).mono ?_
              rintro e w16 ⟨rfl, hd⟩
              have H16 := Lib.hid (H11.out.did hd)
              clear hd H11
              go_wp2_with (first
                | ((with_reducible refine wpList_alloc_blk w16 rfl 39 rfl (ofK .u8 zer) Try.zeroBl ?_); intro w17 hb hbel hsz; have H17 := Lib.hid (H16.out.new hb hbel hsz); clear hb hbel hsz)
                | ((with_reducible refine wpList_store_blk w17 rfl 39 (.tmp 21) (.tmp 120) rfl w16.heap.size 39 (ofK .u8 zer) (ofK .u8 (actB y' a2)) H17.out.hd rfl rfl HLB2.out HIB2.out (one_ofK _ _) ?_); intro w18 hb hc hs; have H18 := Lib.hid (H17.out.put hb hc); clear hb hc hs))
              go_roundw
              case rel => exact ⟨j + 1, by omega, by go_num, Lib.hid ⟨_, by
                have := HT.out.step hk1' ht1' HA2.out H18.out.bare
                unfold sF; rw [if_pos hkd, hW]; exact this⟩⟩
              case measure => simp [intOf]; omega
          · have hkd : keep.getD j false = false := by rw [List.getD_eq_getElem?_getD, List.getElem?_eq_none (by omega)]; rfl
            have hj2 : ¬ (j : Int) < (keep.length : Int) := by omega
            go_wp2_with fail
            go_roundw
            case rel => exact ⟨j + 1, by omega, by go_num, Lib.hid ⟨y', H11.out.bare, HT.out.idle, HT.out.size, HT.out.ok.mono (by omega), by unfold sF; rw [if_neg (by rw [hkd]; simp)]; exact HT.out.hold⟩⟩
            case measure => simp [intOf]; omega
        · obtain rfl : j = ls.length := by omega
          have hbn : Below wr.heap.size wr (wr.alloc (.cells #[] 4)) := (Below.refl _ _).alloc (Nat.le_refl _) _
          obtain ⟨i1, hi1, hy0, hy1, hy2⟩ := info_parts Try.infoBool
          have HO0 := Lib.hid ((Blk.new wr [] 4).owns (base := wr.heap.size) (Nat.le_refl _) (by simp))
          have HS0 := Lib.hid ((HK.out.1.below HT.out.env.b (Nat.le_refl _)).below hbn (Nat.le_refl _))
          have HBN := Lib.hid hbn
          clear hbn hlat hjl
          go_wp2_with (at_builtin; refine wpList_append_sl _ rfl (.tmp 126) (.tmp 127) 47 rfl wr.heap.size 4 i1 (.bool false) 1 Try.underlying47 hi1 hy0 hy1 hy2 rfl (.slice (some ⟨wr.heap.size, 0, none⟩) 0 0) 0 [] rfl HO0.out _ _ rfl HS0.out (one_bool _) keep.length ?_ ?_ ?_ ?_ ?_)
          · simp
          · have := HK.out.2; unfold maxLen; omega
          · have := HK.out.2; omega
          · simp
          intro ao2 c2 w7 hown7 hgr7 _
          have hb7 : Below wr.heap.size wr w7 := HBN.out.grown hgr7 (by simp) (fun k hk => by cases hk; exact Nat.le_refl _)
          have hv7 : ∀ k, (Value.slice ao2 keep.length c2).ownBlock = some k → wr.heap.size ≤ k := fun k hk => (hown7.lt k hk).1
          have H7 := Lib.hid (And.intro hb7 (And.intro (Sl.of_owns hown7) hv7))
          have hfx : ∀ i, y'.holds i = (crashD keep x).holds i := fun i => (HT.out.hold i).trans (by
            show _ = sF (fun k => keep.getD k false) x.firm x.loose x.loose.length i
            rw [HR.out.loose]; simp [wrsOf])
          have hcon : contentL (crashD keep x) = contentL y' := by
            unfold contentL
            rw [if_neg (show ¬ (crashD keep x).out = true from fun h => by cases h), if_neg (show ¬ y'.out = true by rw [HT.out.idle.out]; simp)]
            exact (conTo_eq hfx 5).symm
          have hxk := crashD_ok HR.out.okX keep
          have HCX := Lib.hid (show contentL (crashD keep x) = contentL y' ∧ (crashD keep x).Ok k ∧ (crashD keep x).size = 5 ∧ (crashD keep x).loose.length = 0 from ⟨hcon, hxk, HR.out.sizeX, rfl⟩)
          have HEF := Lib.hid (fun w => eq_five w (contentL y') (contentL_len HT.out.ok))
          clear hown7 hgr7 hb7 hv7 hfx hcon hxk HO0 HS0 HBN hi1 hy0 hy1 hy2
          go_wp2_with fail
          refine (crash_new ao2 keep.length c2 k keep HT.out.env.duo H7.out.1 HR.out.okX (by omega) H7.out.2.1 H7.out.2.2 rfl).mono ?_
          rintro e w8 ⟨rfl, hd⟩
          have H8 := Lib.hid (HT.out.env.did hd)
          clear hd
          go_wp2_with fail
          refine (content_duo k _ H8.out.duo HCX.out.2.1 (by omega) HCX.out.2.2.1 HCX.out.1).mono ?_
          rintro e w9 ⟨rfl, hd⟩
          have H9 := Lib.hid (H8.out.did hd)
          clear hd H8
          go_wp2_with fail
          refine (content_duo (61 * k + ls.length) _ H9.out.swap.duo HT.out.ok (by omega) HT.out.size rfl).mono ?_
          rintro e w10 ⟨rfl, hd⟩
          have H10 := Lib.hid (H9.out.swap.did hd).swap
          have he := HEF.out
          clear hd H9
          go_wp2_with fail
          refine (pending_duo k 0 H10.out.duo HCX.out.2.1 (by omega) HCX.out.2.2.2).mono ?_
          rintro e w11 ⟨ao3, c3, rfl, _, hd⟩
          have H11 := Lib.hid (H10.out.did hd)
          clear hd
          go_wp2_with fail
          go_ret
          exact ⟨rfl, H11.out.b⟩

end Go.Proofs.Yticcjaccpcnjhaa
