/-
  DiskSettles, walked. Conditions: none.
-/
import Derived.Test.YticcjaccpcnjhaaEnv
import Derived.Lib.AppendZeros
namespace Go.Proofs.Yticcjaccpcnjhaa
open Go Go.RowKit
set_option linter.unusedSimpArgs false

structure SetI (w wr : World) (p : Nat) (k : Nat) (y : Dk) : Prop where
  env : Env w wr p y none []
  idle : Idle y
  size : y.size = 5
  okY : y.Ok k

structure SetJ (w wr : World) (p g : Nat) (k : Nat) (c : List Int) (y : Dk) : Prop where
  env : Env w wr p y none [(g, 61, ofK .u8 c)]
  idle : Idle y
  size : y.size = 5
  okY : y.Ok k
  loose : y.loose = []
  con : contentL y = c

theorem crash_armed {y : Dk} (h : Idle y) (hl : y.loose = []) (bs : List Bool) (L : Int) : crashD bs (armed y L) = y := by
  obtain ⟨s, f, lo, o, ar, fa, op⟩ := y
  obtain ⟨h1, h2, h3⟩ := h
  simp only at h1 h2 h3 hl
  subst h1 h2 h3 hl
  rfl

theorem arm_any' {y : Dk} (h : Idle y) {L : Int} (h0 : 0 ≤ L) : armF y L = armed y L ∧ powE y = 0 := by
  unfold armF powE
  have c : ¬ y.out = true := by rw [h.out]; simp
  rw [if_neg c, if_neg c]
  refine ⟨?_, rfl⟩
  unfold armed upF; rw [if_pos h0]

theorem wpList_unguard {P : Program} {ops : Array Oper} {rest : List Oper} {o : Oper} {a : Act} {w : World} {Q : Exit → Act → World → Prop} (h : Region.wanted o (yielded ops a.tmps) = true) (k : wpList P ops Q ({ o with guard := none } :: rest) a w) : wpList P ops Q (o :: rest) a w := by
  unfold wpList at k ⊢
  rw [if_pos h]
  rw [if_pos (show Region.wanted { o with guard := none } (yielded ops a.tmps) = true by simp [Region.wanted])] at k
  exact k

/-- a crash, the row that it takes made just before -/
theorem crash_new {w w3 wr : World} {p : Nat} {x x' : Dk} {o : Option (Nat × Dk)} {R : Nat → Prop} (ao : Option Addr) (len c n : Nat) (bs : List Bool) (h : Duo w w3 p x o R) (hb : Below w3.heap.size w3 wr) (hx : x.Ok n) (hn : n ≤ 1073741824) (hs : Sl wr (.slice ao len c) (bs.map Value.bool)) (hv : ∀ k, (Value.slice ao len c).ownBlock = some k → w3.heap.size ≤ k) (h1 : crashD bs x = x') :
    Calls Try.prog 15 #[.pointer (some ⟨p, 0, none⟩), .slice ao len c] wr (fun e w' => e = .returned (.int .i64 0) ∧ Did w w3 w' p x' o R) := by
  obtain ⟨S, T, g1, g2, g3, g4, g5, g6⟩ := h
  have hc := Ch.of_below (S := fun _ => False) hb (Nat.le_refl _)
  have hsz := hb.size
  refine (crash_at p S x x' ao len c bs n wr (g1.keep hc (fun _ _ h => h)) hx hn hs (fun k hk hS => by have := hv k hk; have := g1.bd k hS; omega) h1).mono ?_
  rintro e w' ⟨rfl, hd, hc2⟩
  refine ⟨rfl, ?_⟩
  have := did_step (g2.keep hc (fun _ _ h => h)) g3 (fun k hk => ⟨(g4 k hk).1, by have := (g4 k hk).2.1; omega, (g4 k hk).2.2⟩) (fun k hk => ⟨(g5 k hk).1, by have := (g5 k hk).2; omega⟩) (below_thn g6 hb (Nat.le_refl _)) hd hc2
  exact ⟨this.1, (Ch.of_below hb (Nat.le_refl _)).trans this.2⟩

set_option maxRecDepth 100000 in
set_option maxHeartbeats 8000000 in
theorem diskSettles_walk (v0 : Value) (l : List (ActD × Value)) (v1 : Value) (ks : List (Value × List Bool)) (w : World) (s : SlA w v0 l) (s1 : SlR w v1 ks) : Calls Try.prog 7 #[v0, v1] w (TrueP w) := by
  obtain ⟨ao, cp, rfl, hlc, hc63, hcells, hoks⟩ := s
  obtain ⟨ao1, cp1, rfl, hlc1, hc631, hcells1, hoks1⟩ := s1
  have HS := Lib.hid (And.intro hcells hoks)
  have HS1 := Lib.hid (And.intro hcells1 hoks1)
  clear hcells hoks hcells1 hoks1
  go_enter Try.func7, Try.ntmps7
  go_wp2_with fail
  refine (wakes_any w).mono ?_
  rintro e w1 ⟨rfl, hb1⟩
  go_wp2_with fail
  refine (blank_any w1).mono ?_
  rintro e w2 ⟨p, rfl, hd2, hb2⟩
  have H4 := Lib.hid (duo_start1 hb1 hd2 hb2)
  clear hb1 hd2 hb2
  go_wp2_with fail
  refine (few_any ao l.length cp w2 hlc hc63).mono ?_
  rintro e w' ⟨rfl, rfl⟩
  obtain ⟨m, hm⟩ : ∃ m, m = min l.length 60 := ⟨_, rfl⟩
  rw [← hm]
  have hm60 : m ≤ 60 := by omega
  have HM := Lib.hid (show m ≤ l.length by omega)
  clear hm
  go_wp2_with fail
  go_loopw [21] (fun c wr => ∃ (k : Nat), k ≤ m ∧ c = .int .i64 k ∧ Hid (∃ y, SetI w wr p k y)) (fun c _ => m - (intOf c).toNat)
  case atStart => exact ⟨0, by omega, rfl, Lib.hid ⟨_, H4.out, idle_new 5, rfl, newD_ok (n := 5) (by omega) (by omega) 0⟩⟩
  case round =>
    obtain ⟨k, hk, rfl, HR⟩ := hrel
    obtain ⟨y, HR⟩ := HR.out
    replace HR := Lib.hid HR
    clear H4
    by_cases hlt : k < m
    · have hkl : k < l.length := by have := HM.out; omega
      obtain ⟨b, o, rfl, hcell⟩ := HS.out.1 (by omega)
      obtain ⟨ka, klen, kcp, hkv, hok⟩ := HS.out.2 l[k] (List.getElem_mem hkl)
      have hcl := hcell k hkl
      generalize l[k] = lk at hkv hok hcl
      obtain ⟨a, kv⟩ := lk
      simp only at hkv hok hcl
      subst hkv
      have HC := Lib.hid (rangeW_below hcl HR.out.env.b)
      have HA := Lib.hid hok
      have HIA := Lib.hid (infoA a (.slice ka klen kcp))
      have HLA := Lib.hid (lenA a (.slice ka klen kcp))
      have HOA := Lib.hid (oneA a ka klen kcp)
      clear hcl hok hcell
      have hk0 : (0 : Int) ≤ (k : Int) := by omega
      have hk1 : (k : Int) < (m : Int) := by omega
      go_wp2_with (first
        | (with_reducible refine wpList_load_any rfl 49 (.tmp 23) rfl b (o + k * 5) rfl (actC a (.slice ka klen kcp)) _ HC.out Try.underlying49 rfl HIA.out ?_)
        | ((with_reducible refine wpList_alloc_blk wr rfl 49 rfl actZ Try.zeroAct ?_); intro w5 hb hbel hsz; have H5 := Lib.hid (HR.out.env.new hb hbel hsz); clear hb hbel hsz)
        | ((with_reducible refine wpList_store_blk w5 rfl 49 (.tmp 7) (.tmp 24) rfl wr.heap.size 49 actZ (actC a (.slice ka klen kcp)) H5.out.hd rfl rfl HLA.out HIA.out HOA.out ?_); intro w6 hb hc hs; have H6 := Lib.hid (H5.out.put hb hc); have HR6 := Lib.hid (rangeW_blk hb); clear hb hc hs)
        | (with_reducible refine wpList_load_any rfl 49 (.tmp 7) rfl wr.heap.size 0 rfl (actC a (.slice ka klen kcp)) _ HR6.out Try.underlying49 rfl HIA.out ?_))
      by_cases hq : kindF a.kind < 3
      · have hb : decide (kindF a.kind < 3) = true := decide_eq_true hq
        refine (asks_duo a _ true H6.out.1 hb).mono ?_
        rintro e w7 ⟨rfl, hd⟩
        have H7 := Lib.hid (H6.out.did hd)
        have HR7 := Lib.hid (rangeW_blk H7.out.hd)
        clear hd H6
        clear hb H5 HR6 HC
        go_wp2_with (with_reducible refine wpList_load_any rfl 49 (.tmp 7) rfl wr.heap.size 0 rfl (actC a (.slice ka klen kcp)) _ HR7.out Try.underlying49 rfl HIA.out ?_)
        refine (act_duo a ka klen kcp k _ _ _ H7.out.1 HR.out.okY (by omega) (HA.out.below H7.out.b) (by omega) rfl rfl rfl).mono ?_
        rintro e w8 ⟨rfl, hd⟩
        have H8 := Lib.hid (H7.out.did hd)
        clear hd H7
        go_wp2_with fail
        go_roundw
        case rel => exact ⟨k + 1, by omega, by go_num, Lib.hid ⟨_, Env.of H8.out.end, (idle_act HR.out.idle HR.out.size hq).1, (idle_act HR.out.idle HR.out.size hq).2.1, actF_ok HR.out.okY HA.out⟩⟩
        case measure => simp [intOf]; omega
      · have hb : decide (kindF a.kind < 3) = false := decide_eq_false hq
        refine (asks_duo a _ false H6.out.1 hb).mono ?_
        rintro e w7 ⟨rfl, hd⟩
        have H7 := Lib.hid (H6.out.did hd)
        clear hd H6
        clear hb H5 HR6 HC
        go_wp2_with fail
        go_roundw
        case rel => exact ⟨k + 1, by omega, by go_num, Lib.hid ⟨y, Env.of H7.out.end, HR.out.idle, HR.out.size, HR.out.okY.mono (by omega)⟩⟩
        case measure => simp [intOf]; omega
    · obtain rfl : k = m := by omega
      clear hlt
      have hsy := idle_sync HR.out.idle (by rw [HR.out.size]; omega)
      have hok := syncD_ok HR.out.okY
      rw [hsy] at hok
      obtain ⟨x, hx⟩ : ∃ x : Dk, x = { settleD (fun _ => true) y with ops := y.ops + 1 } := ⟨_, rfl⟩
      rw [← hx] at hsy hok
      have HY := Lib.hid (And.intro hsy (idle_ok HR.out.idle true (i := 0) (Int.le_refl _) (by rw [HR.out.size]; omega)))
      have HX := Lib.hid (show x.Ok (k + 1) ∧ Idle x ∧ x.size = 5 ∧ x.loose.length = 0 ∧ x.loose = [] from ⟨hok, by rw [hx]; exact ⟨HR.out.idle.out, HR.out.idle.arms, HR.out.idle.fails⟩, by rw [hx]; exact HR.out.size, by rw [hx]; rfl, by rw [hx]; rfl⟩)
      have HIC := Lib.hid (infoC (contentL_len hok))
      have HLC := Lib.hid (show (ofK .u8 (contentL x)).length = (ofK .u8 zerC).length from by rw [length_ofK, length_ofK, contentL_len hok]; rfl)
      have HEC := Lib.hid (fun w => eq_five w (contentL x) (contentL_len hok))
      obtain ⟨c, hc⟩ : ∃ c, contentL x = c := ⟨_, rfl⟩
      rw [hc] at HIC HLC HEC
      have HCX := Lib.hid hc
      clear hsy hok hx hc
      go_wp2_with fail
      refine (sync_duo k 0 x HR.out.env.1 HR.out.okY (by omega) HY.out.1 HY.out.2).mono ?_
      rintro e w5 ⟨rfl, hd⟩
      have H5 := Lib.hid (HR.out.env.did hd)
      clear hd HR HY
      go_wp2_with fail
      refine (pending_duo (k + 1) 0 H5.out.1 HX.out.1 (by omega) HX.out.2.2.2.1).mono ?_
      rintro e w6 ⟨aop, cp6, rfl, _, hd⟩
      have H6 := Lib.hid (H5.out.did hd)
      clear hd H5
      go_wp2_with fail
      refine (content_duo (k + 1) _ H6.out.1 HX.out.1 (by omega) HX.out.2.2.1 HCX.out).mono ?_
      rintro e w7 ⟨rfl, hd⟩
      have H7 := Lib.hid (H6.out.did hd)
      clear hd H6
      go_wp2_with (first
        | ((with_reducible refine wpList_alloc_blk w7 rfl 61 rfl (ofK .u8 zerC) Try.zeroCt ?_); intro w8 hb hbel hsz; have H8 := Lib.hid (H7.out.new hb hbel hsz); clear hb hbel hsz)
        | ((with_reducible refine wpList_store_blk w8 rfl 61 (.tmp 8) (.tmp 41) rfl w7.heap.size 61 (ofK .u8 zerC) (ofK .u8 c) H8.out.hd rfl rfl HLC.out HIC.out (one_ofK _ _) ?_); intro w9 hb hc hs; have H9 := Lib.hid (H8.out.put hb hc); clear hb hc hs))
      generalize w7.heap.size = g at *
      go_loopw [44] (fun cc wr => ∃ (i : Nat), i ≤ 8 ∧ i ≤ ks.length ∧ cc = .int .i64 i ∧ Hid (∃ y, SetJ w wr p g (k + 1 + i) c y)) (fun cc _ => 8 - (intOf cc).toNat)
      case atStart => exact ⟨0, by omega, by omega, rfl, Lib.hid ⟨x, H9.out, HX.out.2.1, HX.out.2.2.1, HX.out.1, HX.out.2.2.2.2, HCX.out⟩⟩
      case round =>
        obtain ⟨i, hi8, hil, rfl, HR⟩ := hrel
        obtain ⟨y, HR⟩ := HR.out
        replace HR := Lib.hid HR
        clear H7 H8 H9 HX HCX
        by_cases hlt : i < ks.length
        · obtain ⟨b, o, rfl, hcell⟩ := HS1.out.1 (by omega)
          obtain ⟨ka, kcp, hkv, hsl, hlen⟩ := HS1.out.2 ks[i] (List.getElem_mem hlt)
          have hcl := hcell i hlt
          generalize ks[i] = lk at hkv hsl hlen hcl
          obtain ⟨kv, bs⟩ := lk
          simp only at hkv hsl hlen hcl
          subst hkv
          have hc0 := (HR.out.env.b.cell (p := ⟨b, o + i, none⟩) (block_of_cell hcl)).trans hcl
          have HSL := Lib.hid (And.intro (hsl.below HR.out.env.b (Nat.le_refl _)) hlen)
          have HSB := Lib.hid hsl
          clear hcl hcell hsl hlen
          have hi0 : (0 : Int) ≤ (i : Int) := by omega
          have hi1 : (i : Int) < (ks.length : Int) := by omega
          by_cases h8 : i = 8
          · subst h8
            go_wp2_with fail
            go_ret
            exact ⟨rfl, HR.out.env.b⟩
          · have h8' : ¬ (i : Int) = 8 := by omega
            have hmod : (0 : Int) ≤ (i : Int) % 3 := by omega
            go_wp2_with fail
            have H0 := Lib.hid (HR.out.env.below (Below.refl _ wr).drew)
            have hS0 := rangeW_blk H0.out.hd
            refine wp_region_takes (fun w' => w'.rangeAt g 0 (ofK .u8 c)) [0, 1, 2] 20 (by kernel_rfl) rfl (by kernel_rfl) (by kernel_rfl) hS0 ?_
            have HAR := Lib.hid (arm_any' HR.out.idle (L := (i : Int) % 3) hmod)
            have HCR := Lib.hid (crash_armed HR.out.idle HR.out.loose bs ((i : Int) % 3))
            have HOA := Lib.hid (show (armed y ((i : Int) % 3)).Ok (k + 1 + i) from { HR.out.okY with arms1 := by show -1 ≤ (i : Int) % 3; omega, arms2 := by show (i : Int) % 3 ≤ _; omega })
            iterate 3 (refine' HeldL.run ?_ ?_ ?_ ?_; rotate_left 2; (simp only [List.getElem?_toArray, List.getElem?_cons_zero, List.getElem?_cons_succ]; rfl); rfl; (rintro w' k0; go_simp; with_reducible rfl); simp only [Act.put, List.setIfInBounds_toArray, List.set_cons_zero, List.set_cons_succ])
            refine' wpAnyH_one 3 (by kernel_rfl) ?_ ?_; rotate_left; (simp only [List.getElem?_toArray, List.getElem?_cons_zero, List.getElem?_cons_succ]; rfl)
            try simp only [Act.put]
            go_wp2_with fail
            refine (arm_duo ((i : Int) % 3) 0 _ H0.out.1 HAR.out.1 HAR.out.2).mono ?_
            rintro e w5 ⟨rfl, hd⟩
            have H5 := Lib.hid (H0.out.did hd)
            have hS := rangeW_blk H5.out.hd
            clear hd H0 hS0
            go_wp2_with fail
            refine QK.normal ⟨hS, ?_⟩
            refine' wpAnyH_one 4 (by kernel_rfl) ?_ ?_; rotate_left; (simp only [List.getElem?_toArray, List.getElem?_cons_zero, List.getElem?_cons_succ]; rfl)
            try simp only [Act.put]
            go_wp2_with fail
            refine QK.normal ⟨hS, ?_⟩
            refine' wpAnyH_one 5 (by kernel_rfl) ?_ ?_; rotate_left; (simp only [List.getElem?_toArray, List.getElem?_cons_zero, List.getElem?_cons_succ]; rfl)
            try simp only [Act.put]
            go_wp2_with fail
            refine QK.normal ⟨hS, ?_⟩
            refine wpAnyH_takes (fuel := 15) (by kernel_rfl) noPanic_any hS [6, 8] _ _ (by kernel_rfl) ?_
            iterate 2 (refine' HeldL.run ?_ ?_ ?_ ?_; rotate_left 2; (simp only [List.getElem?_toArray, List.getElem?_cons_zero, List.getElem?_cons_succ]; rfl); rfl; (rintro w' k0; go_simp; with_reducible rfl); simp only [Act.put, List.setIfInBounds_toArray, List.set_cons_zero, List.set_cons_succ])
            refine' wpAnyH_one 7 (by kernel_rfl) ?_ ?_; rotate_left; (simp only [List.getElem?_toArray, List.getElem?_cons_zero, List.getElem?_cons_succ]; rfl)
            try simp only [Act.put]
            go_wp2_with fail
            have hb57 : Below w5.heap.size w5 (w5.alloc (.cells #[] 4)) := (Below.refl _ _).alloc (Nat.le_refl _) _
            have hS6 := rangeW_below hS hb57
            refine QK.normal ⟨hS6, ?_⟩
            obtain ⟨i0, hi0', hz0, hz1, hz2⟩ := info_parts Try.infoBool
            have HO0 := Lib.hid ((Blk.new w5 [] 4).owns (base := w5.heap.size) (Nat.le_refl _) (by simp))
            have hb05 : Below w.heap.size w w5 := H5.out.b
            have HS0 := Lib.hid ((HSB.out.below hb05 (Nat.le_refl _)).below hb57 (Nat.le_refl _))
            refine' wpAnyH_one 9 (by kernel_rfl) ?_ ?_; rotate_left; (simp only [List.getElem?_toArray, List.getElem?_cons_zero, List.getElem?_cons_succ]; rfl)
            try simp only [Act.put]
            refine wpList_unguard rfl ?_
            refine wpList_append_sl _ rfl (.tmp 58) (.tmp 59) 47 rfl w5.heap.size 4 i0 (.bool false) 1 Try.underlying47 hi0' hz0 hz1 hz2 rfl (.slice (some ⟨w5.heap.size, 0, none⟩) 0 0) 0 [] rfl HO0.out _ _ rfl HS0.out (one_bool _) bs.length ?_ ?_ ?_ ?_ ?_
            · simp
            · have := HSL.out.2; unfold maxLen; omega
            · have := HSL.out.2; omega
            · simp
            intro ao2 c2 w7 hown7 hgr7 _
            have hb7 : Below w5.heap.size w5 w7 := hb57.grown hgr7 (by simp) (fun k hk => by cases hk; exact Nat.le_refl _)
            have hv7 : ∀ k, (Value.slice ao2 bs.length c2).ownBlock = some k → w5.heap.size ≤ k := fun k hk => (hown7.lt k hk).1
            have H7 := Lib.hid (And.intro hb7 (And.intro (Sl.of_owns hown7) hv7))
            have hS7 := rangeW_below hS hb7
            clear hown7 hgr7 hb7 hv7 hS6 hb57 HO0 HS0 hi0' hz0 hz1 hz2
            refine QK.normal ⟨hS7, ?_⟩
            refine' wpAnyH_one 10 (by kernel_rfl) ?_ ?_; rotate_left; (simp only [List.getElem?_toArray, List.getElem?_cons_zero, List.getElem?_cons_succ]; rfl)
            try simp only [Act.put]
            go_wp2_with fail
            refine (crash_new ao2 bs.length c2 (k + 1 + i) bs H5.out.1 H7.out.1 HOA.out (by omega) H7.out.2.1 H7.out.2.2 HCR.out).mono ?_
            rintro e w8 ⟨rfl, hd⟩
            have H8 := Lib.hid (H5.out.did hd)
            have hS8 := rangeW_blk H8.out.hd
            clear hd H5 hS hS7 hb05
            go_wp2_with fail
            refine QK.normal ⟨hS8, ?_⟩
            refine' wpAnyH_one 11 (by kernel_rfl) ?_ ?_; rotate_left; (simp only [List.getElem?_toArray, List.getElem?_cons_zero, List.getElem?_cons_succ]; rfl)
            try simp only [Act.put]
            go_wp2_with fail
            refine QK.normal ⟨hS8, ?_⟩
            refine' wpAnyH_one 12 (by kernel_rfl) ?_ ?_; rotate_left; (simp only [List.getElem?_toArray, List.getElem?_cons_zero, List.getElem?_cons_succ]; rfl)
            try simp only [Act.put]
            go_wp2_with fail
            refine QK.normal ⟨hS8, ?_⟩
            refine' wpAnyH_one 13 (by kernel_rfl) ?_ ?_; rotate_left; (simp only [List.getElem?_toArray, List.getElem?_cons_zero, List.getElem?_cons_succ]; rfl)
            try simp only [Act.put]
            go_wp2_with fail
            refine QK.normal ⟨hS8, ?_⟩
            refine' wpAnyH_one 14 (by kernel_rfl) ?_ ?_; rotate_left; (simp only [List.getElem?_toArray, List.getElem?_cons_zero, List.getElem?_cons_succ]; rfl)
            try simp only [Act.put]
            go_wp2_with fail
            refine QK.normal ⟨hS8, ?_⟩
            refine' wpAnyH_one 15 (by kernel_rfl) ?_ ?_; rotate_left; (simp only [List.getElem?_toArray, List.getElem?_cons_zero, List.getElem?_cons_succ]; rfl)
            try simp only [Act.put]
            go_wp2_with fail
            refine (dead_duo false H8.out.1 HR.out.idle.out).mono ?_
            rintro e w' ⟨rfl, rfl⟩
            go_wp2_with fail
            refine QK.normal ⟨hS8, ?_⟩
            refine' wpAnyH_one 16 (by kernel_rfl) ?_ ?_; rotate_left; (simp only [List.getElem?_toArray, List.getElem?_cons_zero, List.getElem?_cons_succ]; rfl)
            try simp only [Act.put]
            go_wp2_with fail
            refine QK.normal ⟨hS8, ?_⟩
            refine' wpAnyH_one 17 (by kernel_rfl) ?_ ?_; rotate_left; (simp only [List.getElem?_toArray, List.getElem?_cons_zero, List.getElem?_cons_succ]; rfl)
            try simp only [Act.put]
            go_wp2_with fail
            refine QK.normal ⟨hS8, ?_⟩
            refine wpAnyH_takes (fuel := 3) (by kernel_rfl) noPanic_any hS8 [18, 20] _ _ (by kernel_rfl) ?_
            (refine' HeldL.run ?_ ?_ ?_ ?_; rotate_left 2; (simp only [List.getElem?_toArray, List.getElem?_cons_zero, List.getElem?_cons_succ]; rfl); rfl; (rintro w' k0; go_simp; with_reducible rfl); simp only [Act.put, List.setIfInBounds_toArray, List.set_cons_zero, List.set_cons_succ])
            refine' HeldL.run ?_ ?_ ?_ ?_
            rotate_left 2
            (simp only [List.getElem?_toArray, List.getElem?_cons_zero, List.getElem?_cons_succ]; rfl)
            rfl
            · intro w' k0
              exact exec_load_mid rfl rfl k0 Try.underlying61 rfl HIC.out
            simp only [Act.put, List.setIfInBounds_toArray, List.set_cons_zero, List.set_cons_succ]
            refine' wpAnyH_one 19 (by kernel_rfl) ?_ ?_; rotate_left; (simp only [List.getElem?_toArray, List.getElem?_cons_zero, List.getElem?_cons_succ]; rfl)
            try simp only [Act.put]
            go_wp2_with fail
            refine (content_duo (k + 1 + i) c H8.out.1 HR.out.okY (by omega) HR.out.size HR.out.con).mono ?_
            rintro e w9 ⟨rfl, hd⟩
            have H9 := Lib.hid (H8.out.did hd)
            have hS9 := rangeW_blk H9.out.hd
            have he := HEC.out
            clear hd H8 hS8
            go_wp2_with fail
            refine QK.normal ⟨hS9, ?_⟩
            refine' wpAnyH_one 21 (by kernel_rfl) ?_ ?_; rotate_left; (simp only [List.getElem?_toArray, List.getElem?_cons_zero, List.getElem?_cons_succ]; rfl)
            try simp only [Act.put]
            go_wp2_with fail
            refine QK.normal ⟨hS9, ?_⟩
            refine' wpAnyH_one 22 (by kernel_rfl) ?_ ?_; rotate_left; (simp only [List.getElem?_toArray, List.getElem?_cons_zero, List.getElem?_cons_succ]; rfl)
            try simp only [Act.put]
            go_wp2_with fail
            refine QK.normal ⟨hS9, ?_⟩
            refine wpAnyH_done (by kernel_rfl) ?_ _
            refine NoPanic.normal ?_
            try simp only [Act.put]
            clear he hS9
            go_wp2_with fail
            have hm0 : (0 : Int) ≤ (i : Int) % 5 := by omega
            have hm1 : (i : Int) % 5 < y.size := by rw [HR.out.size]; omega
            have HRD := Lib.hid (And.intro (idle_read HR.out.idle hm0 hm1) (And.intro (idle_ok HR.out.idle false hm0 hm1) (idle_readB HR.out.idle hm0 hm1)))
            have HLB := Lib.hid (lenB' (HR.out.okY.holdsB ((i : Int) % 5)))
            have HIB := Lib.hid (infoB (HR.out.okY.holdsB ((i : Int) % 5)))
            clear hm0 hm1
            refine (read_duo ((i : Int) % 5) (y.holds ((i : Int) % 5)) 0 (k + 1 + i) _ H9.out.1 HR.out.okY (by omega) HRD.out.1 HRD.out.2.1 HRD.out.2.2).mono ?_
            rintro e w10 ⟨rfl, hd⟩
            have H10 := Lib.hid (H9.out.did hd)
            clear hd H9
            go_wp2_with (first
              | ((with_reducible refine wpList_alloc_blk w10 rfl 39 rfl (ofK .u8 zer) Try.zeroBl ?_); intro w11 hb hbel hsz; have H11 := Lib.hid (H10.out.new hb hbel hsz); clear hb hbel hsz)
              | ((with_reducible refine wpList_store_blk w11 rfl 39 (.tmp 11) (.tmp 79) rfl w10.heap.size 39 (ofK .u8 zer) (ofK .u8 (y.holds ((i : Int) % 5))) H11.out.hd rfl rfl HLB.out HIB.out (one_ofK _ _) ?_); intro w12 hb hc hs; have H12 := Lib.hid (H11.out.put hb hc); clear hb hc hs))
            have hok' := readD_ok HR.out.okY ((i : Int) % 5)
            rw [HRD.out.1] at hok'
            go_roundw
            case rel => exact ⟨i + 1, by omega, by omega, by go_num, Lib.hid ⟨_, H12.out.tl, ⟨HR.out.idle.out, HR.out.idle.arms, HR.out.idle.fails⟩, HR.out.size, hok', HR.out.loose, (contentL_eq rfl rfl rfl).trans HR.out.con⟩⟩
            case measure => simp [intOf]; omega
        · go_wp2_with fail
          go_ret
          exact ⟨rfl, HR.out.env.b⟩

end Go.Proofs.Yticcjaccpcnjhaa
