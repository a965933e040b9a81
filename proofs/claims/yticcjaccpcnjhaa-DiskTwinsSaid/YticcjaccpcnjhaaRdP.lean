/-
  The law's lived, walked: acts are done to a disk as the reference says. Conditions: at most 2^30 lines and acts.
-/
import Derived.Test.YticcjaccpcnjhaaRdO
namespace Go.Proofs.Yticcjaccpcnjhaa
open Go Go.RowKit
set_option linter.unusedSimpArgs false

set_option maxRecDepth 100000 in
set_option maxHeartbeats 8000000 in
theorem lived_any {w w0 : World} {p : Nat} {x0 : Dk} {o : Option (Nat × Dk)} {R : Nat → Prop} (fm0 n : Nat) (sv0 : Value) (st0 : List Wr) (v0 : Value) (l : List (ActD × Value)) (h : Duo w w0 p x0 o R) (hs : StAt w0 sv0 st0) (hk : ∀ k, sv0.ownBlock = some k → R k) (hr : RefOf x0 st0 fm0) (hx : x0.Ok n) (hn : n + 60 ≤ 1073741824) (hl : st0.length + 61 ≤ 1073741824) (hv : SlA w v0 l) :
    Calls Try.prog 14 #[.pointer (some ⟨p, 0, none⟩), .agg (rC x0 fm0 sv0).toArray, v0] w0 (LivedP w w0 o R sv0 (st0.length + 60) (n + 60) x0.size) := by
  obtain ⟨ao, cp, rfl, hlc, hc63, hcells, hoks⟩ := hv
  obtain ⟨N, hN⟩ : ∃ N, N = st0.length := ⟨_, rfl⟩
  obtain ⟨s0, hs0⟩ : ∃ s0, s0 = x0.size := ⟨_, rfl⟩
  have HS := Lib.hid (And.intro hcells hoks)
  have hlN : N + 61 ≤ 1073741824 := by omega
  have HH := Lib.hid (And.intro h (And.intro hs (And.intro hk (And.intro hr (And.intro hx (And.intro hN hs0))))))
  have HRB := Lib.hid h.bound
  have HIz := Lib.hid (infoB isB_zer)
  obtain ⟨z0, zl, zc, hzv⟩ := hs.shape
  rw [← hN, ← hs0]
  clear hcells hoks h hs hk hr hx hN hs0 hl
  go_enter Try.func14, Try.ntmps14
  go_wp2_with (first
    | (with_reducible refine wpList_box_blk w0 rfl 30 (.tmp 1) rfl (rC x0 fm0 sv0) rfl ?_; intro w1 hb hbel hsz; have H1 := Lib.hid ((show EnvS w w0 w0 p x0 o R R [] sv0 st0 from ⟨EnvR.of HH.out.1, HH.out.2.1, HH.out.2.2.1, fun _ h => h, Ch.refl _ _⟩).new hb hbel hsz); clear hb hbel hsz)
    | ((with_reducible refine wpList_alloc_blk w1 rfl 30 rfl rZ Try.zeroRd ?_); intro w2 hb hbel hsz; have H2 := Lib.hid (H1.out.new hb hbel hsz); clear hb hbel hsz))
  refine (few_any ao l.length cp w2 hlc hc63).mono ?_
  rintro e w' ⟨rfl, rfl⟩
  obtain ⟨m, hm⟩ : ∃ m, m = min l.length 60 := ⟨_, rfl⟩
  rw [← hm]
  have hm60 : m ≤ 60 := by omega
  have HM := Lib.hid (show m ≤ l.length by omega)
  clear hm
  go_wp2_with fail
  go_loopw [0, 20] (fun d c wr => ∃ (k q : Nat), k ≤ m ∧ d = .pointer (some ⟨q, 0, none⟩) ∧ c = .int .i64 k ∧ Hid (∃ x F fm sv st, LivI w w0 o R w0.heap.size w1.heap.size sv0 N n k s0 q x F fm sv st wr)) (fun _ c _ => m - (intOf c).toNat)
  case atStart => exact ⟨0, p, by omega, rfl, rfl, Lib.hid ⟨x0, R, fm0, sv0, st0, ⟨H2.out, fun _ h => .inl h, fun _ h => .inl h, HH.out.2.2.2.1, by rw [HH.out.2.2.2.2.2.1]; exact Nat.le_refl _, HH.out.2.2.2.2.1, HH.out.2.2.2.2.2.2.symm⟩⟩⟩
  case round =>
    obtain ⟨k, q, hk, rfl, rfl, HR⟩ := hrel
    obtain ⟨x, F, fm, sv, st, HR⟩ := HR.out
    obtain ⟨so, sc, rfl, -⟩ := id HR.env.told
    have hlen := HR.len
    replace HR := Lib.hid HR
    clear H1 H2
    by_cases hlt : k < m
    · have hkl : k < l.length := by have := HM.out; omega
      obtain ⟨b, o1, rfl, hcell⟩ := HS.out.1 (by omega)
      obtain ⟨ka, klen, kcp, hkv, hok⟩ := HS.out.2 l[k] (List.getElem_mem hkl)
      have hcl := hcell k hkl
      generalize l[k] = lk at hkv hok hcl
      obtain ⟨a, kv⟩ := lk
      simp only at hkv hok hcl
      subst hkv
      have HC := Lib.hid (rangeW_below hcl HR.out.env.env.b)
      have HA := Lib.hid hok
      have HIA := Lib.hid (infoA a (.slice ka klen kcp))
      have HLA := Lib.hid (lenA a (.slice ka klen kcp))
      have HOA := Lib.hid (oneA a ka klen kcp)
      have hok2 := Lib.hid hok
      have HIX := Lib.hid (infoR x fm (.slice so st.length sc))
      clear hcl hok hcell
      have hk0 : (0 : Int) ≤ (k : Int) := by omega
      have hk1 : (k : Int) < (m : Int) := by omega
      obtain ⟨y, hy⟩ : ∃ y, actF x a = y := ⟨_, rfl⟩
      obtain ⟨bb, hbb⟩ : ∃ bb, actB x a = bb := ⟨_, rfl⟩
      obtain ⟨mm, hmm⟩ : ∃ mm, actE x a = mm := ⟨_, rfl⟩
      have HY := Lib.hid (And.intro hy (And.intro hbb hmm))
      have hbB : IsB bb := by rw [← hbb]; exact isB_act HR.out.ok a
      have HIB := Lib.hid (infoB hbB)
      have HLB := Lib.hid (lenB' hbB)
      have HE := Lib.hid (fun w => eq_blocks w bb bb true hbB hbB (decide_eq_true rfl))
      have HYO := Lib.hid (show y.Ok (n + k + 1) ∧ y.size = s0 from ⟨by rw [← hy]; exact actF_ok HR.out.ok hok2.out, by rw [← hy, actF_size]; exact HR.out.size⟩)
      clear hy hbb hmm hbB
      go_wp2_with (first
        | (with_reducible refine wpList_load_any rfl 49 (.tmp 22) rfl b (o1 + k * 5) rfl ((actC a (.slice ka klen kcp))) _ HC.out Try.underlying49 rfl HIA.out ?_)
        | ((with_reducible refine wpList_alloc_blk wr rfl 49 rfl actZ Try.zeroAct ?_); intro w5 hb hbel hsz; have H5 := Lib.hid (HR.out.env.new hb hbel hsz); clear hb hbel hsz)
        | ((with_reducible refine wpList_store_blk w5 rfl 49 (.tmp 10) (.tmp 23) rfl wr.heap.size 49 (actZ) ((actC a (.slice ka klen kcp))) (H5.out.env.at 0 rfl) rfl rfl HLA.out HIA.out HOA.out ?_); intro w6 hb hc hs; have H6 := Lib.hid (H5.out.put 0 rfl hb hc); have HR6 := Lib.hid (rangeW_blk hb); clear hb hc hs)
        | (with_reducible refine wpList_load_any rfl 49 (.tmp 10) rfl wr.heap.size 0 rfl ((actC a (.slice ka klen kcp))) _ HR6.out Try.underlying49 rfl HIA.out ?_))
      refine (act_every a ka klen kcp (n + k) y bb mm H6.out.env.duo HR.out.ok (by omega) (HA.out.below H6.out.env.b) HY.out.1 HY.out.2.1 HY.out.2.2).mono ?_
      rintro e w7 ⟨q7, rfl, hd⟩
      have H7 := Lib.hid (H6.out.did hd)
      clear hd H5 H6 HR6 HC
      go_wp2_with (first
        | ((with_reducible refine wpList_alloc_blk w7 rfl 39 rfl (ofK .u8 zer) Try.zeroBl ?_); intro w8 hb hbel hsz; have H8 := Lib.hid (H7.out.new hb hbel hsz); clear hb hbel hsz)
        | ((with_reducible refine wpList_store_blk w8 rfl 39 (.tmp 12) (.tmp 29) rfl w7.heap.size 39 (ofK .u8 zer) (ofK .u8 bb) (H8.out.env.at 0 rfl) rfl rfl HLB.out HIB.out (one_ofK _ _) ?_); intro w9 hb hc hs; have H9 := Lib.hid (H8.out.put 0 rfl hb hc); have HRX := Lib.hid (show w9.rangeAt w0.heap.size 0 (rC x fm (.slice so st.length sc)) from H9.out.env.rng 3 rfl); have HRA := Lib.hid (show w9.rangeAt wr.heap.size 0 (actC a (.slice ka klen kcp)) from H9.out.env.rng 1 rfl); clear hb hc hs)
        | (with_reducible refine wpList_load_any rfl 30 (.tmp 4) rfl w0.heap.size 0 rfl (rC x fm (.slice so st.length sc)) _ HRX.out Try.underlying30 rfl HIX.out ?_)
        | (with_reducible refine wpList_load_any rfl 49 (.tmp 10) rfl wr.heap.size 0 rfl ((actC a (.slice ka klen kcp))) _ HRA.out Try.underlying49 rfl HIA.out ?_))
      refine (ought_any x fm (n + k) _ st a ka klen kcp w9 y bb mm H9.out.told H9.out.bound HR.out.ref HR.out.ok (by omega) (by omega) (HA.out.below H9.out.env.b) HY.out.1 HY.out.2.1 HY.out.2.2).mono ?_
      rintro e w10 ⟨sv1, st1, fm1, rfl, hs1, hr1, hl1, hk1, hb1⟩
      obtain ⟨s1o, s1c, rfl, -⟩ := id hs1
      have H10 := Lib.hid (H9.out.tell hb1 hs1 hk1)
      have HK := Lib.hid (And.intro hr1 (And.intro hk1 (show w0.heap.size ≤ w9.heap.size from H9.out.ch.size)))
      have HID := Lib.hid (infoR y fm1 (.slice s1o st1.length s1c))
      have HLD := Lib.hid (lenR y fm1 (.slice s1o st1.length s1c))
      have HLL := Lib.hid (show (rC y fm1 (.slice s1o st1.length s1c)).length = (rC x fm (.slice so st.length sc)).length from rfl)
      have HOD := Lib.hid (oneR y fm1 s1o st1.length s1c)
      clear hs1 hr1 hk1 hb1 H7 H8 H9 HRX HRA
      go_wp2_with (first
        | ((with_reducible refine wpList_alloc_blk w10 rfl 30 rfl rZ Try.zeroRd ?_); intro w11 hb hbel hsz; have H11 := Lib.hid (H10.out.new hb hbel hsz); clear hb hbel hsz)
        | ((with_reducible refine wpList_alloc_blk w11 rfl 39 rfl (ofK .u8 zer) Try.zeroBl ?_); intro w12 hb hbel hsz; have H12 := Lib.hid (H11.out.new hb hbel hsz); clear hb hbel hsz)
        | ((with_reducible refine wpList_store_blk w12 rfl 30 (.tmp 14) (.tmp 35) rfl w10.heap.size 30 (rZ) (rC y fm1 (.slice s1o st1.length s1c)) (H12.out.env.at 1 rfl) rfl rfl HLD.out HID.out HOD.out ?_); intro w13 hb hc hs; have H13 := Lib.hid (H12.out.put 1 rfl hb hc); clear hb hc hs)
        | ((with_reducible refine wpList_store_blk w13 rfl 39 (.tmp 15) (.tmp 36) rfl w11.heap.size 39 (ofK .u8 zer) (ofK .u8 bb) (H13.out.env.at 0 rfl) rfl rfl HLB.out HIB.out (one_ofK _ _) ?_); intro w14 hb hc hs; have H14 := Lib.hid (H13.out.put 0 rfl hb hc); clear hb hc hs))
      have H15 := Lib.hid (H14.out.below (Below.refl _ w14).drew)
      refine wp_region_takes (fun w' => w'.rangeAt w10.heap.size 0 (rC y fm1 (.slice s1o st1.length s1c))) [0, 1] 2 (by kernel_rfl) rfl (by kernel_rfl) (by kernel_rfl) (H15.out.env.rng 1 rfl) ?_
      generalize w14.drew = v0 at H15 ⊢
      clear H10 H11 H12 H13 H14
      refine' HeldL.run ?_ ?_ ?_ ?_; rotate_left 2; (simp only [List.getElem?_toArray, List.getElem?_cons_zero, List.getElem?_cons_succ]; rfl); rfl; (rintro w' k0; go_simp; with_reducible rfl); simp only [Act.put, List.setIfInBounds_toArray, List.set_cons_zero, List.set_cons_succ]
      refine' HeldL.run ?_ ?_ ?_ ?_; rotate_left 2; (simp only [List.getElem?_toArray, List.getElem?_cons_zero, List.getElem?_cons_succ]; rfl); rfl; (rintro w' k0; exact exec_load_mid rfl rfl k0 Try.underlying30 rfl HID.out); simp only [Act.put, List.setIfInBounds_toArray, List.set_cons_zero, List.set_cons_succ]
      refine' wpAnyH_one 2 (by kernel_rfl) ?_ ?_; rotate_left; (simp only [List.getElem?_toArray, List.getElem?_cons_zero, List.getElem?_cons_succ]; rfl)
      try simp only [Act.put]
      go_wp2_with fail
      refine QK.normal ⟨H15.out.env.rng 1 rfl, ?_⟩
      refine' wpAnyH_one 3 (by kernel_rfl) ?_ ?_; rotate_left; (simp only [List.getElem?_toArray, List.getElem?_cons_zero, List.getElem?_cons_succ]; rfl)
      try simp only [Act.put]
      refine wpList_store_blk v0 rfl 30 (.tmp 4) (.tmp 39) rfl w0.heap.size 30 (rC x fm (.slice so st.length sc)) (rC y fm1 (.slice s1o st1.length s1c)) (H15.out.env.at 5 rfl) rfl rfl HLL.out HID.out HOD.out ?_
      intro w16 hb hc hs
      have H16 := Lib.hid (H15.out.put 5 rfl hb hc)
      clear hb hc hs
      simp only [Act.put, List.setIfInBounds_toArray, List.set_cons_zero, List.set_cons_succ]
      refine QK.normal ⟨H16.out.env.rng 1 rfl, ?_⟩
      refine wpAnyH_done (by kernel_rfl) ?_ _
      refine NoPanic.normal ?_
      clear H15
      have HB12 := Lib.hid (show w16.rangeAt w7.heap.size 0 (ofK .u8 bb) from H16.out.env.rng 2 rfl); have HB15 := Lib.hid (show w16.rangeAt w11.heap.size 0 (ofK .u8 bb) from H16.out.env.rng 0 rfl); have HRY := Lib.hid (show w16.rangeAt w0.heap.size 0 (rC y fm1 (.slice s1o st1.length s1c)) from H16.out.env.rng 5 rfl); have he := HE.out
      go_wp2_with (first
        | (with_reducible refine wpList_load_any rfl 39 (.tmp 12) rfl w7.heap.size 0 rfl (ofK .u8 bb) _ HB12.out Try.underlying39 rfl HIB.out ?_)
        | (with_reducible refine wpList_load_any rfl 39 (.tmp 15) rfl w11.heap.size 0 rfl (ofK .u8 bb) _ HB15.out Try.underlying39 rfl HIB.out ?_)
        | (with_reducible refine wpList_load_any rfl 30 (.tmp 4) rfl w0.heap.size 0 rfl (rC y fm1 (.slice s1o st1.length s1c)) _ HRY.out Try.underlying30 rfl HID.out ?_))
      refine (stands_any fm1 (n + k + 1) _ st1 H16.out.env.duo H16.out.told HK.out.1 HYO.out.1 (by omega) (by omega)).mono ?_
      rintro e w17 ⟨rfl, hb17⟩
      have H17 := Lib.hid (H16.out.below hb17)
      clear hb17 he HB12 HB15 HRY H16
      go_wp2_with fail
      go_roundw
      case rel => exact ⟨k + 1, q7, by omega, rfl, by go_num, Lib.hid ⟨y, _, fm1, _, st1, ⟨H17.out.tl.tl.tl.tl, src_next HR.out.src HK.out.2.1 HK.out.2.2, sup_next HR.out.sup HK.out.2.2, HK.out.1, by omega, HYO.out.1, HYO.out.2⟩⟩⟩
      case measure => simp [intOf]; omega
    · obtain rfl : k = m := by omega
      have H3 := Lib.hid (HR.out.env.below (Below.refl _ wr).drew)
      have HIX := Lib.hid (infoR x fm (.slice so st.length sc))
      have HLX := Lib.hid (lenR x fm (.slice so st.length sc))
      have HOX := Lib.hid (oneR x fm so st.length sc)
      go_wp2_with fail
      refine wp_region_takes (fun w' => w'.rangeAt w0.heap.size 0 (rC x fm (.slice so st.length sc))) [0, 1] 3 (by kernel_rfl) rfl (by kernel_rfl) (by kernel_rfl) (H3.out.env.rng 1 rfl) ?_
      generalize wr.drew = v0 at H3 ⊢
      refine' HeldL.run ?_ ?_ ?_ ?_; rotate_left 2; (simp only [List.getElem?_toArray, List.getElem?_cons_zero, List.getElem?_cons_succ]; rfl); rfl; (rintro w' k0; go_simp; with_reducible rfl); simp only [Act.put, List.setIfInBounds_toArray, List.set_cons_zero, List.set_cons_succ]
      refine' HeldL.run ?_ ?_ ?_ ?_; rotate_left 2; (simp only [List.getElem?_toArray, List.getElem?_cons_zero, List.getElem?_cons_succ]; rfl); rfl; (rintro w' k0; exact exec_load_mid rfl rfl k0 Try.underlying30 rfl HIX.out); simp only [Act.put, List.setIfInBounds_toArray, List.set_cons_zero, List.set_cons_succ]
      refine' wpAnyH_one 2 (by kernel_rfl) ?_ ?_; rotate_left; (simp only [List.getElem?_toArray, List.getElem?_cons_zero, List.getElem?_cons_succ]; rfl)
      try simp only [Act.put]
      go_wp2_with fail
      refine QK.normal ⟨H3.out.env.rng 1 rfl, ?_⟩
      refine' wpAnyH_one 3 (by kernel_rfl) ?_ ?_; rotate_left; (simp only [List.getElem?_toArray, List.getElem?_cons_zero, List.getElem?_cons_succ]; rfl)
      try simp only [Act.put]
      refine wpList_store_blk v0 rfl 30 (.tmp 7) (.tmp 58) rfl w1.heap.size 30 rZ (rC x fm (.slice so st.length sc)) (H3.out.env.at 0 rfl) rfl rfl HLX.out HIX.out HOX.out ?_
      intro w16 hb hc hs
      have H16 := Lib.hid (H3.out.put 0 rfl hb hc)
      clear hb hc hs
      simp only [Act.put, List.setIfInBounds_toArray, List.set_cons_zero, List.set_cons_succ]
      refine QK.normal ⟨H16.out.env.rng 1 rfl, ?_⟩
      refine' wpAnyH_one 4 (by kernel_rfl) ?_ ?_; rotate_left; (simp only [List.getElem?_toArray, List.getElem?_cons_zero, List.getElem?_cons_succ]; rfl)
      try simp only [Act.put]
      go_wp2_with fail
      refine QK.normal ⟨H16.out.env.rng 1 rfl, ?_⟩
      refine wpAnyH_done (by kernel_rfl) ?_ _
      refine NoPanic.normal ?_
      go_wp2_with fail
      refine bodyPost_ret (results_tct Try.results14 _ _ w1.heap.size _ _ rfl (H16.out.env.at 0 rfl) _ Try.underlying30 rfl HIX.out _ _ rfl rfl) rfl ?_
      exact ⟨q, x, fm, _, st, F, rfl, H16.out.env.duo.less (fun _ h => .inl h), H16.out.told, fun k e => ⟨H16.out.row k e, HR.out.src k e⟩, H16.out.sub, HR.out.sup, H16.out.ch, HR.out.ref, by omega, HR.out.ok.mono (by omega), HR.out.size⟩

end Go.Proofs.Yticcjaccpcnjhaa
