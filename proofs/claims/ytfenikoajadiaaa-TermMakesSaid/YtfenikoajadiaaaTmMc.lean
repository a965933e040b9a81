/-
  Layer 5: law 05: TermMakes, walked. Conditions: none.
-/
import Derived.Test.YtfenikoajadiaaaTmMb
import Derived.Test.YtfenikoajadiaaaTmI
import Derived.Test.YtfenikoajadiaaaTmX
import Derived.Test.YtfenikoajadiaaaFrameU
namespace Go.Proofs.Ytfenikoajadiaaa
open Go Go.RowKit
set_option linter.unusedSimpArgs false
set_option linter.unusedVariables false


theorem SlT.pre1 {F : Nat → Prop} {w : World} {b : Nat} {cs ds : List Value} {t : Tm} (hb : Blk w b 24 (cs ++ ds)) (hF : F b) (ht : TmC F w cs t) : SlT F w (.slice (some ⟨b, 0, none⟩) 1 2) [t] :=
  ⟨some ⟨b, 0, none⟩, 2, rfl, by simp, by unfold maxLen; omega, fun _ => ⟨b, 0, rfl, hF, hb.lt, AtC.mk' fun j hj => match j, hj with
    | 0, _ => ⟨cs, fun i v hv => by have h := rangeW_blk hb i v (by rw [List.getElem?_append_left (by have := List.getElem?_eq_some_iff.1 hv; exact this.1)]; exact hv); simpa using h, ht⟩⟩⟩
theorem Try.buildSeal (k u : Int) (ao : Option Addr) (m c : Nat) : ∀ w, (Instr.build 24 #[(0, .int .i64 k), (1, .int .i64 u), (4, .slice ao m c)]).run Try.prog w = .ok (.agg (tmC k u 0 ⟨#[]⟩ (.slice ao m c)).toArray) w := fun w => by kernel_rfl
theorem Try.buildSign (k u n : Int) (ao : Option Addr) (m c : Nat) : ∀ w, (Instr.build 24 #[(0, .int .i64 k), (1, .int .i64 u), (2, .int .i64 n), (4, .slice ao m c)]).run Try.prog w = .ok (.agg (tmC k u n ⟨#[]⟩ (.slice ao m c)).toArray) w := fun w => by kernel_rfl
theorem tm_nil (k u n : Int) (s : ByteArray) (w : World) : TmC (fun _ => True) w (tmC k u n s (.slice none 0 0)) (.mk k u n s []) := TmC_iff.2 ⟨_, rfl, SlT.nil _ _⟩


set_option maxRecDepth 100000 in
set_option maxHeartbeats 32000000 in
theorem termMakes_walk (v : Value) (ts : List Tm) (t : Tm) (cs : List Value) (pu pn : Int) (ps : ByteArray) (w : World) (hts : SlT AnyF w v ts) (ht : TmC AnyF w cs t) :
    Calls Try.prog 8 #[v, .agg cs.toArray, .agg (partC pu pn ps).toArray] w (TrueP w) := by
  obtain ⟨ao, c, rfl, hmc, hcm, -⟩ := id hts
  obtain ⟨m, hm⟩ : ∃ m, ts.length = m := ⟨_, rfl⟩
  have HM := Lib.hid hm
  rw [hm] at hts hmc ⊢
  have HSL := Lib.hid hts.old
  have hm63 : m ≤ 9223372036854775807 := by unfold maxLen at hcm; omega
  obtain ⟨ot, ct, rfl, -, -, -⟩ := ht.shape
  have HT := Lib.hid ht.old
  obtain ⟨ov, hov⟩ : ∃ x, overB t = x := ⟨_, rfl⟩
  have EO := Lib.hid hov
  obtain ⟨zt, hzt⟩ : ∃ x, decide (sizeT t ≠ 0) = x := ⟨_, rfl⟩
  have EZ := Lib.hid hzt
  clear hts hm hmc hcm ht hov hzt
  generalize t.ks.length = mt at HT ⊢
  generalize t.k = kt at HT ⊢
  generalize t.u = ut at HT ⊢
  generalize t.n = nt at HT ⊢
  generalize t.s = st at HT ⊢
  have H0 := Lib.hid (Below.refl w.heap.size w)
  go_enter Try.func8, Try.ntmps8
  go_wp2_with (first
    | ((with_reducible refine wpList_box_blk w rfl 24 (.tmp 1) rfl (tmC kt ut nt st (.slice ot mt ct)) rfl ?_); intro a1 hb hbel hsz; have HA1 := Lib.hid (show Below w.heap.size w a1 ∧ Blk a1 w.heap.size 24 (tmC kt ut nt st (.slice ot mt ct)) from ⟨below_thn H0.out hbel (Nat.le_refl _), hb⟩); clear hb hbel hsz)
    | ((with_reducible refine wpList_box_blk a1 rfl 48 (.tmp 2) rfl (partC pu pn ps) rfl ?_); intro a2 hb hbel hsz; have HA2 := Lib.hid (show Below w.heap.size w a2 ∧ Blk a2 w.heap.size 24 (tmC kt ut nt st (.slice ot mt ct)) ∧ Blk a2 a1.heap.size 48 (partC pu pn ps) from ⟨below_thn HA1.out.1 hbel (Nat.le_refl _), HA1.out.2.below hbel HA1.out.2.lt, hb⟩); clear hb hbel hsz))
  have hx := wakes5_any a2
  refine Calls.mono hx ?_
  clear hx
  rintro e' y1 ⟨rfl, hb⟩
  have HY2 := Lib.hid (show Below w.heap.size w y1 ∧ Blk y1 w.heap.size 24 (tmC kt ut nt st (.slice ot mt ct)) ∧ Blk y1 a1.heap.size 48 (partC pu pn ps) from ⟨below_thn HA2.out.1 hb (Nat.le_refl _), HA2.out.2.1.below hb HA2.out.2.1.lt, HA2.out.2.2.below hb HA2.out.2.2.lt⟩)
  clear hb
  by_cases hbig : 100 < m
  · have e1 : decide ((100 : Int) < (m : Int)) = true := by simp; omega
    clear hbig
    go_wp2_with fail
    go_ret
    exact ⟨rfl, HY2.out.1⟩
  have e1 : decide ((100 : Int) < (m : Int)) = false := by simp; omega
  have h100 : m ≤ 100 := by omega
  clear hbig
  go_wp2_with (first
    | ((with_reducible refine wpList_load_want ?_ 24 (.tmp 4) rfl w.heap.size 0 rfl (tmC kt ut nt st (.slice ot mt ct)) _ (rangeW_blk HY2.out.2.1) Try.underlying24 rfl (tmC_info _ _ _ _ _) ?_); focus rfl))
  have hx := over_any t _ _ y1 (HT.out.below HY2.out.1)
  rw [EO.out] at hx
  refine Calls.mono hx ?_
  clear hx
  rintro e' y3 ⟨rfl, hb⟩
  have HY4 := Lib.hid (show Below w.heap.size w y3 ∧ Blk y3 w.heap.size 24 (tmC kt ut nt st (.slice ot mt ct)) ∧ Blk y3 a1.heap.size 48 (partC pu pn ps) from ⟨below_thn HY2.out.1 hb (Nat.le_refl _), HY2.out.2.1.below hb HY2.out.2.1.lt, HY2.out.2.2.below hb HY2.out.2.2.lt⟩)
  clear hb
  cases ov
  rotate_left
  · skip
    go_wp2_with fail
    go_ret
    exact ⟨rfl, HY4.out.1⟩
  have c2 := HY4.out.2.2.cell 2
  simp only [partC, List.getElem?_cons_zero, List.getElem?_cons_succ] at c2
  by_cases hps : 1000 < ps.size
  · have e2 : decide ((1000 : Int) < (ps.size : Int)) = true := by simp; omega
    clear hps
    go_wp2_with fail
    go_ret
    exact ⟨rfl, HY4.out.1⟩
  have e2 : decide ((1000 : Int) < (ps.size : Int)) = false := by simp; omega
  clear hps
  go_wp2_with fail
  clear c2 e1 e2
  go_loopw [33] (fun i wr => ∃ j : Nat, i = .int .i64 j ∧ j ≤ m ∧ Hid (Below w.heap.size w wr ∧ Blk wr w.heap.size 24 (tmC kt ut nt st (.slice ot mt ct)) ∧ Blk wr a1.heap.size 48 (partC pu pn ps))) (fun i _ => m - (intOf i).toNat)
  case atStart => exact ⟨0, rfl, Nat.zero_le _, HY4⟩
  case round =>
    clear HY4
    obtain ⟨j, rfl, hj, HZ⟩ := hrel
    by_cases hlt : j < m
    · have hjk : j < ts.length := by rw [HM.out]; exact hlt
      have hjz : (j : Int) < (m : Int) := by omega
      have hj0 : (0 : Int) ≤ (j : Int) := by omega
      obtain ⟨b, o, csj, rfl, -, -, hra, htm⟩ := (HSL.out.below HZ.out.1).get hjk
      generalize ts[j] = kj at htm
      obtain ⟨aj, cj, rfl, -, -, -⟩ := htm.shape
      have HRA := Lib.hid hra
      have HTM := Lib.hid htm
      clear hra htm hjk
      go_wp2_with (first
    | (with_reducible refine wpList_load_any rfl 24 (.tmp 35) rfl b (o + j * 5) rfl (tmC kj.k kj.u kj.n kj.s (.slice aj kj.ks.length cj)) _ HRA.out Try.underlying24 rfl (tmC_info _ _ _ _ _) ?_)
    | ((with_reducible refine wpList_alloc_blk wr rfl 24 rfl (tmC 0 0 0 ⟨#[]⟩ (.slice none 0 0)) Try.zeroTm ?_); intro b1 hb hbel hsz; have HB1 := Lib.hid (show Below w.heap.size w b1 ∧ Blk b1 w.heap.size 24 (tmC kt ut nt st (.slice ot mt ct)) ∧ Blk b1 a1.heap.size 48 (partC pu pn ps) ∧ Blk b1 wr.heap.size 24 (tmC 0 0 0 ⟨#[]⟩ (.slice none 0 0)) ∧ Below wr.heap.size wr b1 from ⟨below_thn HZ.out.1 hbel (Nat.le_refl _), HZ.out.2.1.below hbel HZ.out.2.1.lt, HZ.out.2.2.below hbel HZ.out.2.2.lt, hb, hbel⟩); clear hb hbel hsz)
    | ((with_reducible refine wpList_store_blk b1 rfl 24 (.tmp 8) (.tmp 36) rfl wr.heap.size 24 (tmC 0 0 0 ⟨#[]⟩ (.slice none 0 0)) (tmC kj.k kj.u kj.n kj.s (.slice aj kj.ks.length cj)) HB1.out.2.2.2.1 rfl rfl rfl (tmC_info _ _ _ _ _) (tmC_one _ _ _ _ _ _ _) ?_); intro b2 hb hc hs; have hbw : Below wr.heap.size wr b2 := below_ch HB1.out.2.2.2.2 hc (Nat.le_refl _) (fun k hk => by have e : k = wr.heap.size := hk; omega); have HB2 := Lib.hid (show Below w.heap.size w b2 ∧ Blk b2 w.heap.size 24 (tmC kt ut nt st (.slice ot mt ct)) ∧ Blk b2 a1.heap.size 48 (partC pu pn ps) ∧ Blk b2 wr.heap.size 24 (tmC kj.k kj.u kj.n kj.s (.slice aj kj.ks.length cj)) ∧ TmC (· < w.heap.size) b2 (tmC kj.k kj.u kj.n kj.s (.slice aj kj.ks.length cj)) kj from ⟨below_thn HZ.out.1 hbw (Nat.le_refl _), HZ.out.2.1.below hbw HZ.out.2.1.lt, HZ.out.2.2.below hbw HZ.out.2.2.lt, hb, HTM.out.below hbw⟩); clear hb hc hs hbw)
    | (with_reducible refine wpList_load_any rfl 24 (.tmp 8) rfl wr.heap.size 0 rfl (tmC kj.k kj.u kj.n kj.s (.slice aj kj.ks.length cj)) _ (rangeW_blk HB2.out.2.2.2.1) Try.underlying24 rfl (tmC_info _ _ _ _ _) ?_))
      have hx := over_any kj _ _ b2 HB2.out.2.2.2.2
      obtain ⟨ov, hov⟩ : ∃ x, overB kj = x := ⟨_, rfl⟩
      rw [hov] at hx
      refine Calls.mono hx ?_
      clear hx hov
      rintro e' b3 ⟨rfl, hb⟩
      have HB3 := Lib.hid (show Below w.heap.size w b3 ∧ Blk b3 w.heap.size 24 (tmC kt ut nt st (.slice ot mt ct)) ∧ Blk b3 a1.heap.size 48 (partC pu pn ps) from ⟨below_thn HB2.out.1 hb (Nat.le_refl _), HB2.out.2.1.below hb HB2.out.2.1.lt, HB2.out.2.2.1.below hb HB2.out.2.2.1.lt⟩)
      clear hb
      cases ov
      rotate_left
      · skip
        go_wp2_with fail
        go_ret
        exact ⟨rfl, HB3.out.1⟩
      go_wp2_with fail
      go_roundw
      case rel => exact ⟨j + 1, by go_num, by omega, HB3⟩
      case measure => simp [intOf]; omega
    · have hge : ¬ (j : Int) < (m : Int) := by omega
      clear hlt hj
      have c0 := HZ.out.2.2.cell 0
      have c1 := HZ.out.2.2.cell 1
      simp only [partC, List.getElem?_cons_zero, List.getElem?_cons_succ] at c0 c1
      go_wp2_with (first
    | (with_reducible refine wpList_buildFresh rfl (.tmp 41) (.tmp 43) rfl pu pn rfl rfl ?_)
    | ((with_reducible refine wpList_alloc_blk wr rfl 24 rfl (tmC 0 0 0 ⟨#[]⟩ (.slice none 0 0)) Try.zeroTm ?_); intro x1 hb hbel hsz; have HX1 := Lib.hid (show Below w.heap.size w x1 ∧ Blk x1 w.heap.size 24 (tmC kt ut nt st (.slice ot mt ct)) ∧ Blk x1 a1.heap.size 48 (partC pu pn ps) ∧ Blk x1 wr.heap.size 24 (tmC 0 0 0 ⟨#[]⟩ (.slice none 0 0)) ∧ Below wr.heap.size wr x1 from ⟨below_thn HZ.out.1 hbel (Nat.le_refl _), HZ.out.2.1.below hbel HZ.out.2.1.lt, HZ.out.2.2.below hbel HZ.out.2.2.lt, hb, hbel⟩); clear hb hbel hsz)
    | ((with_reducible refine wpList_store_blk x1 rfl 24 (.tmp 9) (.tmp 44) rfl wr.heap.size 24 (tmC 0 0 0 ⟨#[]⟩ (.slice none 0 0)) (tmC 2 pu pn ⟨#[]⟩ (.slice none 0 0)) HX1.out.2.2.2.1 rfl rfl rfl (tmC_info _ _ _ _ _) (tmC_one _ _ _ _ _ _ _) ?_); intro x2 hb hc hs; have hbw : Below wr.heap.size wr x2 := below_ch HX1.out.2.2.2.2 hc (Nat.le_refl _) (fun k hk => by have e : k = wr.heap.size := hk; omega); have HX2 := Lib.hid (show Below w.heap.size w x2 ∧ Blk x2 w.heap.size 24 (tmC kt ut nt st (.slice ot mt ct)) ∧ Blk x2 a1.heap.size 48 (partC pu pn ps) ∧ Blk x2 wr.heap.size 24 (tmC 2 pu pn ⟨#[]⟩ (.slice none 0 0)) from ⟨below_thn HZ.out.1 hbw (Nat.le_refl _), HZ.out.2.1.below hbw HZ.out.2.1.lt, HZ.out.2.2.below hbw HZ.out.2.2.lt, hb⟩); clear hb hc hs hbw)
    | (with_reducible refine wpList_load_any rfl 24 (.tmp 4) rfl w.heap.size 0 rfl (tmC kt ut nt st (.slice ot mt ct)) _ (rangeW_blk HX2.out.2.1) Try.underlying24 rfl (tmC_info _ _ _ _ _) ?_)
    | (with_reducible refine wpList_load_any rfl 24 (.tmp 9) rfl wr.heap.size 0 rfl (tmC 2 pu pn ⟨#[]⟩ (.slice none 0 0)) _ (rangeW_blk HX2.out.2.2.2) Try.underlying24 rfl (tmC_info _ _ _ _ _) ?_)
    | ((with_reducible refine wpList_slice_t2 x2 rfl (.tmp 45) (.tmp 46) rfl (tmC kt ut nt st (.slice ot mt ct)) (tmC 2 pu pn ⟨#[]⟩ (.slice none 0 0)) rfl rfl rfl rfl ?_); intro x3 hb hbel; have HX3 := Lib.hid (show Below w.heap.size w x3 ∧ Blk x3 w.heap.size 24 (tmC kt ut nt st (.slice ot mt ct)) ∧ Blk x3 a1.heap.size 48 (partC pu pn ps) ∧ Blk x3 wr.heap.size 24 (tmC 2 pu pn ⟨#[]⟩ (.slice none 0 0)) ∧ Blk x3 x2.heap.size 24 (tmC kt ut nt st (.slice ot mt ct) ++ tmC 2 pu pn ⟨#[]⟩ (.slice none 0 0)) from ⟨below_thn HX2.out.1 hbel (Nat.le_refl _), HX2.out.2.1.below hbel HX2.out.2.1.lt, HX2.out.2.2.1.below hbel HX2.out.2.2.1.lt, HX2.out.2.2.2.below hbel HX2.out.2.2.2.lt, hb⟩); clear hb hbel))
      clear c0 c1
      obtain ⟨ga, hga⟩ : ∃ g, wr.heap.size = g := ⟨_, rfl⟩
      obtain ⟨gk, hgk⟩ : ∃ g, x2.heap.size = g := ⟨_, rfl⟩
      have HX4 := Lib.hid (show Below w.heap.size w x3 ∧ Blk x3 w.heap.size 24 (tmC kt ut nt st (.slice ot mt ct)) ∧ Blk x3 a1.heap.size 48 (partC pu pn ps) ∧ Blk x3 ga 24 (tmC 2 pu pn ⟨#[]⟩ (.slice none 0 0)) ∧ Blk x3 gk 24 (tmC kt ut nt st (.slice ot mt ct) ++ tmC 2 pu pn ⟨#[]⟩ (.slice none 0 0)) from by rw [← hga, ← hgk]; exact HX3.out)
      rw [hga, hgk]
      clear HX1 HX2 HX3 hga hgk HZ
      go_wp2_with fail
      refine wp_region_takes (fun w' => w'.cell? ⟨a1.heap.size, 0, none⟩ = some (.int .i64 pu) ∧ w'.cell? ⟨a1.heap.size, 1, none⟩ = some (.int .i64 pn) ∧ w'.cell? ⟨a1.heap.size, 2, none⟩ = some (.string ps) ∧ w'.rangeAt w.heap.size 0 (tmC kt ut nt st (.slice ot mt ct)) ∧ w'.rangeAt ga 0 (tmC 2 pu pn ⟨#[]⟩ (.slice none 0 0))) [0, 1, 3, 4] 13 (by kernel_rfl) rfl (by kernel_rfl) (by kernel_rfl) ⟨HX4.out.2.2.1.cell 0, HX4.out.2.2.1.cell 1, HX4.out.2.2.1.cell 2, rangeW_blk HX4.out.2.1, rangeW_blk HX4.out.2.2.2.1⟩ ?_
      iterate 4 (refine' HeldL.run ?_ ?_ ?_ ?_; rotate_left 2; (simp only [List.getElem?_toArray, List.getElem?_cons_zero, List.getElem?_cons_succ]; rfl); rfl; (rintro w' ⟨k0, k1, k2, k3, k4⟩; first | exact exec_load_mid rfl rfl k3 Try.underlying24 rfl (tmC_info _ _ _ _ _) | exact exec_load_mid rfl rfl k4 Try.underlying24 rfl (tmC_info _ _ _ _ _) | (go_simp; with_reducible rfl)); simp only [Act.put, List.setIfInBounds_toArray, List.set_cons_zero, List.set_cons_succ])
      have sm := (Sm.refl x3).drew
      have HV6 := Lib.hid (show Below w.heap.size w x3.drew ∧ Blk x3.drew w.heap.size 24 (tmC kt ut nt st (.slice ot mt ct)) ∧ Blk x3.drew a1.heap.size 48 (partC pu pn ps) ∧ Blk x3.drew ga 24 (tmC 2 pu pn ⟨#[]⟩ (.slice none 0 0)) ∧ Blk x3.drew gk 24 (tmC kt ut nt st (.slice ot mt ct) ++ tmC 2 pu pn ⟨#[]⟩ (.slice none 0 0)) from ⟨below_thn HX4.out.1 (sm.below _) (Nat.le_refl _), HX4.out.2.1.below (sm.below _) HX4.out.2.1.lt, HX4.out.2.2.1.below (sm.below _) HX4.out.2.2.1.lt, HX4.out.2.2.2.1.below (sm.below _) HX4.out.2.2.2.1.lt, HX4.out.2.2.2.2.below (sm.below _) HX4.out.2.2.2.2.lt⟩)
      clear sm
      generalize x3.drew = v5 at HV6 ⊢
      refine' wpAnyH_one 2 (by kernel_rfl) ?_ ?_; rotate_left; (simp only [List.getElem?_toArray, List.getElem?_cons_zero, List.getElem?_cons_succ]; rfl)
      try simp only [Act.put]
      go_wp2_with fail
      refine (text_any ps v5).mono ?_
      rintro e' y7 ⟨rfl, hb⟩
      have HY8 := Lib.hid (show Below w.heap.size w y7 ∧ Blk y7 w.heap.size 24 (tmC kt ut nt st (.slice ot mt ct)) ∧ Blk y7 a1.heap.size 48 (partC pu pn ps) ∧ Blk y7 ga 24 (tmC 2 pu pn ⟨#[]⟩ (.slice none 0 0)) ∧ Blk y7 gk 24 (tmC kt ut nt st (.slice ot mt ct) ++ tmC 2 pu pn ⟨#[]⟩ (.slice none 0 0)) from ⟨below_thn HV6.out.1 hb (Nat.le_refl _), HV6.out.2.1.below hb HV6.out.2.1.lt, HV6.out.2.2.1.below hb HV6.out.2.2.1.lt, HV6.out.2.2.2.1.below hb HV6.out.2.2.2.1.lt, HV6.out.2.2.2.2.below hb HV6.out.2.2.2.2.lt⟩)
      clear hb
      go_wp2_with fail
      refine QK.normal ⟨⟨HY8.out.2.2.1.cell 0, HY8.out.2.2.1.cell 1, HY8.out.2.2.1.cell 2, rangeW_blk HY8.out.2.1, rangeW_blk HY8.out.2.2.2.1⟩, ?_⟩
      refine' wpAnyH_one 5 (by kernel_rfl) ?_ ?_; rotate_left; (simp only [List.getElem?_toArray, List.getElem?_cons_zero, List.getElem?_cons_succ]; rfl)
      try simp only [Act.put]
      go_wp2_with fail
      refine (rtext_any ps y7).mono ?_
      rintro e' y9 ⟨rfl, hb⟩
      have HY10 := Lib.hid (show Below w.heap.size w y9 ∧ Blk y9 w.heap.size 24 (tmC kt ut nt st (.slice ot mt ct)) ∧ Blk y9 a1.heap.size 48 (partC pu pn ps) ∧ Blk y9 ga 24 (tmC 2 pu pn ⟨#[]⟩ (.slice none 0 0)) ∧ Blk y9 gk 24 (tmC kt ut nt st (.slice ot mt ct) ++ tmC 2 pu pn ⟨#[]⟩ (.slice none 0 0)) from ⟨below_thn HY8.out.1 hb (Nat.le_refl _), HY8.out.2.1.below hb HY8.out.2.1.lt, HY8.out.2.2.1.below hb HY8.out.2.2.1.lt, HY8.out.2.2.2.1.below hb HY8.out.2.2.2.1.lt, HY8.out.2.2.2.2.below hb HY8.out.2.2.2.2.lt⟩)
      clear hb
      go_wp2_with fail
      refine QK.normal ⟨⟨HY10.out.2.2.1.cell 0, HY10.out.2.2.1.cell 1, HY10.out.2.2.1.cell 2, rangeW_blk HY10.out.2.1, rangeW_blk HY10.out.2.2.2.1⟩, ?_⟩
      refine' wpAnyH_one 6 (by kernel_rfl) ?_ ?_; rotate_left; (simp only [List.getElem?_toArray, List.getElem?_cons_zero, List.getElem?_cons_succ]; rfl)
      try simp only [Act.put]
      go_wp2_with fail
      have hx := rsame_any5 (.mk 1 0 0 ps []) (.mk 1 0 0 ps []) _ _ _ _ y9 (tm_nil _ _ _ _ _) (tm_nil _ _ _ _ _)
      rw [(sameT_iff (.mk 1 0 0 ps []) (.mk 1 0 0 ps [])).2 rfl] at hx
      refine Calls.mono hx ?_
      clear hx
      rintro e' y11 ⟨rfl, hb⟩
      have HY12 := Lib.hid (show Below w.heap.size w y11 ∧ Blk y11 w.heap.size 24 (tmC kt ut nt st (.slice ot mt ct)) ∧ Blk y11 a1.heap.size 48 (partC pu pn ps) ∧ Blk y11 ga 24 (tmC 2 pu pn ⟨#[]⟩ (.slice none 0 0)) ∧ Blk y11 gk 24 (tmC kt ut nt st (.slice ot mt ct) ++ tmC 2 pu pn ⟨#[]⟩ (.slice none 0 0)) from ⟨below_thn HY10.out.1 hb (Nat.le_refl _), HY10.out.2.1.below hb HY10.out.2.1.lt, HY10.out.2.2.1.below hb HY10.out.2.2.1.lt, HY10.out.2.2.2.1.below hb HY10.out.2.2.2.1.lt, HY10.out.2.2.2.2.below hb HY10.out.2.2.2.2.lt⟩)
      clear hb
      go_wp2_with fail
      refine QK.normal ⟨⟨HY12.out.2.2.1.cell 0, HY12.out.2.2.1.cell 1, HY12.out.2.2.1.cell 2, rangeW_blk HY12.out.2.1, rangeW_blk HY12.out.2.2.2.1⟩, ?_⟩
      refine' wpAnyH_one 7 (by kernel_rfl) ?_ ?_; rotate_left; (simp only [List.getElem?_toArray, List.getElem?_cons_zero, List.getElem?_cons_succ]; rfl)
      try simp only [Act.put]
      go_wp2_with fail
      refine QK.normal ⟨⟨HY12.out.2.2.1.cell 0, HY12.out.2.2.1.cell 1, HY12.out.2.2.1.cell 2, rangeW_blk HY12.out.2.1, rangeW_blk HY12.out.2.2.2.1⟩, ?_⟩
      refine wpAnyH_takes (fuel := 4) (by kernel_rfl) noPanic_any ⟨HY12.out.2.2.1.cell 0, HY12.out.2.2.1.cell 1, HY12.out.2.2.1.cell 2, rangeW_blk HY12.out.2.1, rangeW_blk HY12.out.2.2.2.1⟩ [8, 10, 13, 9, 11] _ _ (by kernel_rfl) ?_
      try simp only [Act.put]
      iterate 5 (refine' HeldL.run ?_ ?_ ?_ ?_; rotate_left 2; (simp only [List.getElem?_toArray, List.getElem?_cons_zero, List.getElem?_cons_succ]; rfl); rfl; (rintro w' ⟨k0, k1, k2, k3, k4⟩; first | exact exec_load_mid rfl rfl k3 Try.underlying24 rfl (tmC_info _ _ _ _ _) | exact exec_load_mid rfl rfl k4 Try.underlying24 rfl (tmC_info _ _ _ _ _) | (go_simp; with_reducible rfl)); simp only [Act.put, List.setIfInBounds_toArray, List.set_cons_zero, List.set_cons_succ])
      refine' wpAnyH_one 12 (by kernel_rfl) ?_ ?_; rotate_left; (simp only [List.getElem?_toArray, List.getElem?_cons_zero, List.getElem?_cons_succ]; rfl)
      try simp only [Act.put]
      go_wp2_with fail
      refine (fresh_any pu pn y11).mono ?_
      rintro e' y13 ⟨rfl, hb⟩
      have HY14 := Lib.hid (show Below w.heap.size w y13 ∧ Blk y13 w.heap.size 24 (tmC kt ut nt st (.slice ot mt ct)) ∧ Blk y13 a1.heap.size 48 (partC pu pn ps) ∧ Blk y13 ga 24 (tmC 2 pu pn ⟨#[]⟩ (.slice none 0 0)) ∧ Blk y13 gk 24 (tmC kt ut nt st (.slice ot mt ct) ++ tmC 2 pu pn ⟨#[]⟩ (.slice none 0 0)) from ⟨below_thn HY12.out.1 hb (Nat.le_refl _), HY12.out.2.1.below hb HY12.out.2.1.lt, HY12.out.2.2.1.below hb HY12.out.2.2.1.lt, HY12.out.2.2.2.1.below hb HY12.out.2.2.2.1.lt, HY12.out.2.2.2.2.below hb HY12.out.2.2.2.2.lt⟩)
      clear hb
      go_wp2_with fail
      refine QK.normal ⟨⟨HY14.out.2.2.1.cell 0, HY14.out.2.2.1.cell 1, HY14.out.2.2.1.cell 2, rangeW_blk HY14.out.2.1, rangeW_blk HY14.out.2.2.2.1⟩, ?_⟩
      refine' wpAnyH_one 14 (by kernel_rfl) ?_ ?_; rotate_left; (simp only [List.getElem?_toArray, List.getElem?_cons_zero, List.getElem?_cons_succ]; rfl)
      try simp only [Act.put]
      go_wp2_with fail
      have hx := rsame_any5 (.mk 2 pu pn ⟨#[]⟩ []) (.mk 2 pu pn ⟨#[]⟩ []) _ _ _ _ y13 (tm_nil _ _ _ _ _) (tm_nil _ _ _ _ _)
      rw [(sameT_iff (.mk 2 pu pn ⟨#[]⟩ []) (.mk 2 pu pn ⟨#[]⟩ [])).2 rfl] at hx
      refine Calls.mono hx ?_
      clear hx
      rintro e' y15 ⟨rfl, hb⟩
      have HY16 := Lib.hid (show Below w.heap.size w y15 ∧ Blk y15 w.heap.size 24 (tmC kt ut nt st (.slice ot mt ct)) ∧ Blk y15 a1.heap.size 48 (partC pu pn ps) ∧ Blk y15 ga 24 (tmC 2 pu pn ⟨#[]⟩ (.slice none 0 0)) ∧ Blk y15 gk 24 (tmC kt ut nt st (.slice ot mt ct) ++ tmC 2 pu pn ⟨#[]⟩ (.slice none 0 0)) from ⟨below_thn HY14.out.1 hb (Nat.le_refl _), HY14.out.2.1.below hb HY14.out.2.1.lt, HY14.out.2.2.1.below hb HY14.out.2.2.1.lt, HY14.out.2.2.2.1.below hb HY14.out.2.2.2.1.lt, HY14.out.2.2.2.2.below hb HY14.out.2.2.2.2.lt⟩)
      clear hb
      go_wp2_with fail
      refine QK.normal ⟨⟨HY16.out.2.2.1.cell 0, HY16.out.2.2.1.cell 1, HY16.out.2.2.1.cell 2, rangeW_blk HY16.out.2.1, rangeW_blk HY16.out.2.2.2.1⟩, ?_⟩
      refine' wpAnyH_one 15 (by kernel_rfl) ?_ ?_; rotate_left; (simp only [List.getElem?_toArray, List.getElem?_cons_zero, List.getElem?_cons_succ]; rfl)
      try simp only [Act.put]
      go_wp2_with fail
      refine QK.normal ⟨⟨HY16.out.2.2.1.cell 0, HY16.out.2.2.1.cell 1, HY16.out.2.2.1.cell 2, rangeW_blk HY16.out.2.1, rangeW_blk HY16.out.2.2.2.1⟩, ?_⟩
      refine' wpAnyH_one 16 (by kernel_rfl) ?_ ?_; rotate_left; (simp only [List.getElem?_toArray, List.getElem?_cons_zero, List.getElem?_cons_succ]; rfl)
      try simp only [Act.put]
      go_wp2_with fail
      refine QK.normal ⟨⟨HY16.out.2.2.1.cell 0, HY16.out.2.2.1.cell 1, HY16.out.2.2.1.cell 2, rangeW_blk HY16.out.2.1, rangeW_blk HY16.out.2.2.2.1⟩, ?_⟩
      refine wpAnyH_done (by kernel_rfl) ?_ _
      refine NoPanic.normal ?_
      go_wp2_with fail
      refine wp_region_takes (fun w' => w'.cell? ⟨a1.heap.size, 0, none⟩ = some (.int .i64 pu) ∧ w'.cell? ⟨a1.heap.size, 1, none⟩ = some (.int .i64 pn) ∧ w'.cell? ⟨a1.heap.size, 2, none⟩ = some (.string ps) ∧ w'.rangeAt w.heap.size 0 (tmC kt ut nt st (.slice ot mt ct)) ∧ w'.rangeAt ga 0 (tmC 2 pu pn ⟨#[]⟩ (.slice none 0 0))) [0, 1, 2, 3, 5, 6, 7] 4 (by kernel_rfl) rfl (by kernel_rfl) (by kernel_rfl) ⟨HY16.out.2.2.1.cell 0, HY16.out.2.2.1.cell 1, HY16.out.2.2.1.cell 2, rangeW_blk HY16.out.2.1, rangeW_blk HY16.out.2.2.2.1⟩ ?_
      iterate 7 (refine' HeldL.run ?_ ?_ ?_ ?_; rotate_left 2; (simp only [List.getElem?_toArray, List.getElem?_cons_zero, List.getElem?_cons_succ]; rfl); rfl; (rintro w' ⟨k0, k1, k2, k3, k4⟩; first | exact exec_load_mid rfl rfl k3 Try.underlying24 rfl (tmC_info _ _ _ _ _) | exact exec_load_mid rfl rfl k4 Try.underlying24 rfl (tmC_info _ _ _ _ _) | exact exec_build rfl (vs := #[(0, .int .i64 3), (1, .int .i64 pu)]) (by simp [Act.eval]) (Try.buildSecret pu w') | (go_simp; with_reducible rfl)); simp only [Act.put, List.setIfInBounds_toArray, List.set_cons_zero, List.set_cons_succ])
      have sm := (Sm.refl y15).drew
      have HV18 := Lib.hid (show Below w.heap.size w y15.drew ∧ Blk y15.drew w.heap.size 24 (tmC kt ut nt st (.slice ot mt ct)) ∧ Blk y15.drew a1.heap.size 48 (partC pu pn ps) ∧ Blk y15.drew ga 24 (tmC 2 pu pn ⟨#[]⟩ (.slice none 0 0)) ∧ Blk y15.drew gk 24 (tmC kt ut nt st (.slice ot mt ct) ++ tmC 2 pu pn ⟨#[]⟩ (.slice none 0 0)) from ⟨below_thn HY16.out.1 (sm.below _) (Nat.le_refl _), HY16.out.2.1.below (sm.below _) HY16.out.2.1.lt, HY16.out.2.2.1.below (sm.below _) HY16.out.2.2.1.lt, HY16.out.2.2.2.1.below (sm.below _) HY16.out.2.2.2.1.lt, HY16.out.2.2.2.2.below (sm.below _) HY16.out.2.2.2.2.lt⟩)
      clear sm
      generalize y15.drew = v17 at HV18 ⊢
      refine' wpAnyH_one 4 (by kernel_rfl) ?_ ?_; rotate_left; (simp only [List.getElem?_toArray, List.getElem?_cons_zero, List.getElem?_cons_succ]; rfl)
      try simp only [Act.put]
      go_wp2_with fail
      refine (secret_any pu v17).mono ?_
      rintro e' y19 ⟨rfl, hb⟩
      have HY20 := Lib.hid (show Below w.heap.size w y19 ∧ Blk y19 w.heap.size 24 (tmC kt ut nt st (.slice ot mt ct)) ∧ Blk y19 a1.heap.size 48 (partC pu pn ps) ∧ Blk y19 ga 24 (tmC 2 pu pn ⟨#[]⟩ (.slice none 0 0)) ∧ Blk y19 gk 24 (tmC kt ut nt st (.slice ot mt ct) ++ tmC 2 pu pn ⟨#[]⟩ (.slice none 0 0)) from ⟨below_thn HV18.out.1 hb (Nat.le_refl _), HV18.out.2.1.below hb HV18.out.2.1.lt, HV18.out.2.2.1.below hb HV18.out.2.2.1.lt, HV18.out.2.2.2.1.below hb HV18.out.2.2.2.1.lt, HV18.out.2.2.2.2.below hb HV18.out.2.2.2.2.lt⟩)
      clear hb
      go_wp2_with fail
      refine QK.normal ⟨⟨HY20.out.2.2.1.cell 0, HY20.out.2.2.1.cell 1, HY20.out.2.2.1.cell 2, rangeW_blk HY20.out.2.1, rangeW_blk HY20.out.2.2.2.1⟩, ?_⟩
      refine' wpAnyH_one 8 (by kernel_rfl) ?_ ?_; rotate_left; (simp only [List.getElem?_toArray, List.getElem?_cons_zero, List.getElem?_cons_succ]; rfl)
      try simp only [Act.put]
      go_wp2_with fail
      have hx := rsame_any5 (.mk 3 pu 0 ⟨#[]⟩ []) (.mk 3 pu 0 ⟨#[]⟩ []) _ _ _ _ y19 (tm_nil _ _ _ _ _) (tm_nil _ _ _ _ _)
      rw [(sameT_iff (.mk 3 pu 0 ⟨#[]⟩ []) (.mk 3 pu 0 ⟨#[]⟩ [])).2 rfl] at hx
      refine Calls.mono hx ?_
      clear hx
      rintro e' y21 ⟨rfl, hb⟩
      have HY22 := Lib.hid (show Below w.heap.size w y21 ∧ Blk y21 w.heap.size 24 (tmC kt ut nt st (.slice ot mt ct)) ∧ Blk y21 a1.heap.size 48 (partC pu pn ps) ∧ Blk y21 ga 24 (tmC 2 pu pn ⟨#[]⟩ (.slice none 0 0)) ∧ Blk y21 gk 24 (tmC kt ut nt st (.slice ot mt ct) ++ tmC 2 pu pn ⟨#[]⟩ (.slice none 0 0)) from ⟨below_thn HY20.out.1 hb (Nat.le_refl _), HY20.out.2.1.below hb HY20.out.2.1.lt, HY20.out.2.2.1.below hb HY20.out.2.2.1.lt, HY20.out.2.2.2.1.below hb HY20.out.2.2.2.1.lt, HY20.out.2.2.2.2.below hb HY20.out.2.2.2.2.lt⟩)
      clear hb
      go_wp2_with fail
      refine QK.normal ⟨⟨HY22.out.2.2.1.cell 0, HY22.out.2.2.1.cell 1, HY22.out.2.2.1.cell 2, rangeW_blk HY22.out.2.1, rangeW_blk HY22.out.2.2.2.1⟩, ?_⟩
      refine' wpAnyH_one 9 (by kernel_rfl) ?_ ?_; rotate_left; (simp only [List.getElem?_toArray, List.getElem?_cons_zero, List.getElem?_cons_succ]; rfl)
      try simp only [Act.put]
      go_wp2_with fail
      refine QK.normal ⟨⟨HY22.out.2.2.1.cell 0, HY22.out.2.2.1.cell 1, HY22.out.2.2.1.cell 2, rangeW_blk HY22.out.2.1, rangeW_blk HY22.out.2.2.2.1⟩, ?_⟩
      refine' wpAnyH_one 10 (by kernel_rfl) ?_ ?_; rotate_left; (simp only [List.getElem?_toArray, List.getElem?_cons_zero, List.getElem?_cons_succ]; rfl)
      try simp only [Act.put]
      go_wp2_with fail
      refine QK.normal ⟨⟨HY22.out.2.2.1.cell 0, HY22.out.2.2.1.cell 1, HY22.out.2.2.1.cell 2, rangeW_blk HY22.out.2.1, rangeW_blk HY22.out.2.2.2.1⟩, ?_⟩
      refine wpAnyH_done (by kernel_rfl) ?_ _
      refine NoPanic.normal ?_
      go_wp2_with fail
      refine wp_region_takes (fun w' => w'.cell? ⟨a1.heap.size, 0, none⟩ = some (.int .i64 pu) ∧ w'.cell? ⟨a1.heap.size, 1, none⟩ = some (.int .i64 pn) ∧ w'.cell? ⟨a1.heap.size, 2, none⟩ = some (.string ps) ∧ w'.rangeAt w.heap.size 0 (tmC kt ut nt st (.slice ot mt ct)) ∧ w'.rangeAt ga 0 (tmC 2 pu pn ⟨#[]⟩ (.slice none 0 0))) [0, 1, 2, 3, 5, 6] 13 (by kernel_rfl) rfl (by kernel_rfl) (by kernel_rfl) ⟨HY22.out.2.2.1.cell 0, HY22.out.2.2.1.cell 1, HY22.out.2.2.1.cell 2, rangeW_blk HY22.out.2.1, rangeW_blk HY22.out.2.2.2.1⟩ ?_
      iterate 6 (refine' HeldL.run ?_ ?_ ?_ ?_; rotate_left 2; (simp only [List.getElem?_toArray, List.getElem?_cons_zero, List.getElem?_cons_succ]; rfl); rfl; (rintro w' ⟨k0, k1, k2, k3, k4⟩; first | exact exec_load_mid rfl rfl k3 Try.underlying24 rfl (tmC_info _ _ _ _ _) | exact exec_load_mid rfl rfl k4 Try.underlying24 rfl (tmC_info _ _ _ _ _) | exact exec_build rfl (vs := #[(0, .int .i64 6), (4, .slice (some ⟨gk, 0, none⟩) 2 2)]) (by simp [Act.eval]) (Try.buildOf 6 (some ⟨gk, 0, none⟩) 2 2 w') | (go_simp; with_reducible rfl)); simp only [Act.put, List.setIfInBounds_toArray, List.set_cons_zero, List.set_cons_succ])
      have sm := (Sm.refl y21).drew
      have HV24 := Lib.hid (show Below w.heap.size w y21.drew ∧ Blk y21.drew w.heap.size 24 (tmC kt ut nt st (.slice ot mt ct)) ∧ Blk y21.drew a1.heap.size 48 (partC pu pn ps) ∧ Blk y21.drew ga 24 (tmC 2 pu pn ⟨#[]⟩ (.slice none 0 0)) ∧ Blk y21.drew gk 24 (tmC kt ut nt st (.slice ot mt ct) ++ tmC 2 pu pn ⟨#[]⟩ (.slice none 0 0)) from ⟨below_thn HY22.out.1 (sm.below _) (Nat.le_refl _), HY22.out.2.1.below (sm.below _) HY22.out.2.1.lt, HY22.out.2.2.1.below (sm.below _) HY22.out.2.2.1.lt, HY22.out.2.2.2.1.below (sm.below _) HY22.out.2.2.2.1.lt, HY22.out.2.2.2.2.below (sm.below _) HY22.out.2.2.2.2.lt⟩)
      clear sm
      generalize y21.drew = v23 at HV24 ⊢
      refine' wpAnyH_one 4 (by kernel_rfl) ?_ ?_; rotate_left; (simp only [List.getElem?_toArray, List.getElem?_cons_zero, List.getElem?_cons_succ]; rfl)
      try simp only [Act.put]
      go_wp2_with fail
      refine (pair_any kt ut nt st ot mt ct 2 pu pn ⟨#[]⟩ none 0 0 v23).mono ?_
      rintro e' y25 ⟨nb27, rfl, hbb, hbw, hb⟩
      have HY26 := Lib.hid (show Below w.heap.size w y25 ∧ Blk y25 w.heap.size 24 (tmC kt ut nt st (.slice ot mt ct)) ∧ Blk y25 a1.heap.size 48 (partC pu pn ps) ∧ Blk y25 ga 24 (tmC 2 pu pn ⟨#[]⟩ (.slice none 0 0)) ∧ Blk y25 gk 24 (tmC kt ut nt st (.slice ot mt ct) ++ tmC 2 pu pn ⟨#[]⟩ (.slice none 0 0)) ∧ TmC (fun _ => True) y25 (tmC 4 0 0 ⟨#[]⟩ (.slice (some ⟨nb27, 0, none⟩) 2 2)) (pairT t (.mk 2 pu pn ⟨#[]⟩ [])) from ⟨below_thn HV24.out.1 hb (Nat.le_refl _), HV24.out.2.1.below hb HV24.out.2.1.lt, HV24.out.2.2.1.below hb HV24.out.2.2.1.lt, HV24.out.2.2.2.1.below hb HV24.out.2.2.2.1.lt, HV24.out.2.2.2.2.below hb HV24.out.2.2.2.2.lt, TwoP.tm (w := v23) hbb trivial (((HT.out.below HV24.out.1).mono (G := fun _ => True) (fun _ _ => trivial)).below hb) (tm_nil _ _ _ _ _)⟩)
      clear hbb hbw hb
      go_wp2_with fail
      refine QK.normal ⟨⟨HY26.out.2.2.1.cell 0, HY26.out.2.2.1.cell 1, HY26.out.2.2.1.cell 2, rangeW_blk HY26.out.2.1, rangeW_blk HY26.out.2.2.2.1⟩, ?_⟩
      refine' wpAnyH_one 7 (by kernel_rfl) ?_ ?_; rotate_left; (simp only [List.getElem?_toArray, List.getElem?_cons_zero, List.getElem?_cons_succ]; rfl)
      try simp only [Act.put]
      go_wp2_with fail
      refine (rpair_any kt ut nt st ot mt ct 2 pu pn ⟨#[]⟩ none 0 0 y25).mono ?_
      rintro e' y28 ⟨nb30, rfl, hbb, hbw, hb⟩
      have HY29 := Lib.hid (show Below w.heap.size w y28 ∧ Blk y28 w.heap.size 24 (tmC kt ut nt st (.slice ot mt ct)) ∧ Blk y28 a1.heap.size 48 (partC pu pn ps) ∧ Blk y28 ga 24 (tmC 2 pu pn ⟨#[]⟩ (.slice none 0 0)) ∧ Blk y28 gk 24 (tmC kt ut nt st (.slice ot mt ct) ++ tmC 2 pu pn ⟨#[]⟩ (.slice none 0 0)) ∧ TmC (fun _ => True) y28 (tmC 4 0 0 ⟨#[]⟩ (.slice (some ⟨nb27, 0, none⟩) 2 2)) (pairT t (.mk 2 pu pn ⟨#[]⟩ [])) ∧ TmC (fun _ => True) y28 (tmC 4 0 0 ⟨#[]⟩ (.slice (some ⟨nb30, 0, none⟩) 2 2)) (pairT t (.mk 2 pu pn ⟨#[]⟩ [])) from ⟨below_thn HY26.out.1 hb (Nat.le_refl _), HY26.out.2.1.below hb HY26.out.2.1.lt, HY26.out.2.2.1.below hb HY26.out.2.2.1.lt, HY26.out.2.2.2.1.below hb HY26.out.2.2.2.1.lt, HY26.out.2.2.2.2.1.below hb HY26.out.2.2.2.2.1.lt, HY26.out.2.2.2.2.2.below hb, TwoP.tm (w := y25) hbb trivial (((HT.out.below HY26.out.1).mono (G := fun _ => True) (fun _ _ => trivial)).below hb) (tm_nil _ _ _ _ _)⟩)
      clear hbb hbw hb
      go_wp2_with fail
      refine QK.normal ⟨⟨HY29.out.2.2.1.cell 0, HY29.out.2.2.1.cell 1, HY29.out.2.2.1.cell 2, rangeW_blk HY29.out.2.1, rangeW_blk HY29.out.2.2.2.1⟩, ?_⟩
      refine' wpAnyH_one 8 (by kernel_rfl) ?_ ?_; rotate_left; (simp only [List.getElem?_toArray, List.getElem?_cons_zero, List.getElem?_cons_succ]; rfl)
      try simp only [Act.put]
      go_wp2_with fail
      have hx := rsame_any5 (pairT t (.mk 2 pu pn ⟨#[]⟩ [])) (pairT t (.mk 2 pu pn ⟨#[]⟩ [])) _ _ _ _ y28 HY29.out.2.2.2.2.2.1 HY29.out.2.2.2.2.2.2
      rw [(sameT_iff (pairT t (.mk 2 pu pn ⟨#[]⟩ [])) (pairT t (.mk 2 pu pn ⟨#[]⟩ []))).2 rfl] at hx
      refine Calls.mono hx ?_
      clear hx
      rintro e' y31 ⟨rfl, hb⟩
      have HY32 := Lib.hid (show Below w.heap.size w y31 ∧ Blk y31 w.heap.size 24 (tmC kt ut nt st (.slice ot mt ct)) ∧ Blk y31 a1.heap.size 48 (partC pu pn ps) ∧ Blk y31 ga 24 (tmC 2 pu pn ⟨#[]⟩ (.slice none 0 0)) ∧ Blk y31 gk 24 (tmC kt ut nt st (.slice ot mt ct) ++ tmC 2 pu pn ⟨#[]⟩ (.slice none 0 0)) from ⟨below_thn HY29.out.1 hb (Nat.le_refl _), HY29.out.2.1.below hb HY29.out.2.1.lt, HY29.out.2.2.1.below hb HY29.out.2.2.1.lt, HY29.out.2.2.2.1.below hb HY29.out.2.2.2.1.lt, HY29.out.2.2.2.2.1.below hb HY29.out.2.2.2.2.1.lt⟩)
      clear hb
      go_wp2_with fail
      refine QK.normal ⟨⟨HY32.out.2.2.1.cell 0, HY32.out.2.2.1.cell 1, HY32.out.2.2.1.cell 2, rangeW_blk HY32.out.2.1, rangeW_blk HY32.out.2.2.2.1⟩, ?_⟩
      refine' wpAnyH_one 9 (by kernel_rfl) ?_ ?_; rotate_left; (simp only [List.getElem?_toArray, List.getElem?_cons_zero, List.getElem?_cons_succ]; rfl)
      try simp only [Act.put]
      go_wp2_with fail
      refine QK.normal ⟨⟨HY32.out.2.2.1.cell 0, HY32.out.2.2.1.cell 1, HY32.out.2.2.1.cell 2, rangeW_blk HY32.out.2.1, rangeW_blk HY32.out.2.2.2.1⟩, ?_⟩
      refine' wpAnyH_one 10 (by kernel_rfl) ?_ ?_; rotate_left; (simp only [List.getElem?_toArray, List.getElem?_cons_zero, List.getElem?_cons_succ]; rfl)
      try simp only [Act.put]
      go_wp2_with fail
      refine QK.normal ⟨⟨HY32.out.2.2.1.cell 0, HY32.out.2.2.1.cell 1, HY32.out.2.2.1.cell 2, rangeW_blk HY32.out.2.1, rangeW_blk HY32.out.2.2.2.1⟩, ?_⟩
      refine wpAnyH_takes (fuel := 4) (by kernel_rfl) noPanic_any ⟨HY32.out.2.2.1.cell 0, HY32.out.2.2.1.cell 1, HY32.out.2.2.1.cell 2, rangeW_blk HY32.out.2.1, rangeW_blk HY32.out.2.2.2.1⟩ [11, 12, 14, 15] _ _ (by kernel_rfl) ?_
      try simp only [Act.put]
      iterate 4 (refine' HeldL.run ?_ ?_ ?_ ?_; rotate_left 2; (simp only [List.getElem?_toArray, List.getElem?_cons_zero, List.getElem?_cons_succ]; rfl); rfl; (rintro w' ⟨k0, k1, k2, k3, k4⟩; first | exact exec_load_mid rfl rfl k3 Try.underlying24 rfl (tmC_info _ _ _ _ _) | exact exec_load_mid rfl rfl k4 Try.underlying24 rfl (tmC_info _ _ _ _ _) | exact exec_build rfl (vs := #[(0, .int .i64 6), (4, .slice (some ⟨gk, 0, none⟩) 2 2)]) (by simp [Act.eval]) (Try.buildOf 6 (some ⟨gk, 0, none⟩) 2 2 w') | (go_simp; with_reducible rfl)); simp only [Act.put, List.setIfInBounds_toArray, List.set_cons_zero, List.set_cons_succ])
      refine' wpAnyH_one 13 (by kernel_rfl) ?_ ?_; rotate_left; (simp only [List.getElem?_toArray, List.getElem?_cons_zero, List.getElem?_cons_succ]; rfl)
      try simp only [Act.put]
      go_wp2_with fail
      refine (lock_any kt ut nt st ot mt ct 2 pu pn ⟨#[]⟩ none 0 0 y31).mono ?_
      rintro e' y33 ⟨nb35, rfl, hbb, hbw, hb⟩
      have HY34 := Lib.hid (show Below w.heap.size w y33 ∧ Blk y33 w.heap.size 24 (tmC kt ut nt st (.slice ot mt ct)) ∧ Blk y33 a1.heap.size 48 (partC pu pn ps) ∧ Blk y33 ga 24 (tmC 2 pu pn ⟨#[]⟩ (.slice none 0 0)) ∧ Blk y33 gk 24 (tmC kt ut nt st (.slice ot mt ct) ++ tmC 2 pu pn ⟨#[]⟩ (.slice none 0 0)) ∧ TmC (fun _ => True) y33 (tmC 6 0 0 ⟨#[]⟩ (.slice (some ⟨nb35, 0, none⟩) 2 2)) (.mk 6 0 0 ⟨#[]⟩ [t, (.mk 2 pu pn ⟨#[]⟩ [])]) from ⟨below_thn HY32.out.1 hb (Nat.le_refl _), HY32.out.2.1.below hb HY32.out.2.1.lt, HY32.out.2.2.1.below hb HY32.out.2.2.1.lt, HY32.out.2.2.2.1.below hb HY32.out.2.2.2.1.lt, HY32.out.2.2.2.2.below hb HY32.out.2.2.2.2.lt, TwoP.tm (w := y31) hbb trivial (((HT.out.below HY32.out.1).mono (G := fun _ => True) (fun _ _ => trivial)).below hb) (tm_nil _ _ _ _ _)⟩)
      clear hbb hbw hb
      go_wp2_with fail
      refine QK.normal ⟨⟨HY34.out.2.2.1.cell 0, HY34.out.2.2.1.cell 1, HY34.out.2.2.1.cell 2, rangeW_blk HY34.out.2.1, rangeW_blk HY34.out.2.2.2.1⟩, ?_⟩
      refine' wpAnyH_one 16 (by kernel_rfl) ?_ ?_; rotate_left; (simp only [List.getElem?_toArray, List.getElem?_cons_zero, List.getElem?_cons_succ]; rfl)
      try simp only [Act.put]
      go_wp2_with fail
      have hx := rsame_any5 (.mk 6 0 0 ⟨#[]⟩ [t, (.mk 2 pu pn ⟨#[]⟩ [])]) (.mk 6 0 0 ⟨#[]⟩ [t, (.mk 2 pu pn ⟨#[]⟩ [])]) _ _ _ _ y33 HY34.out.2.2.2.2.2 (TwoP.tm (w := y33) HY34.out.2.2.2.2.1 trivial ((HT.out.below HY34.out.1).mono (G := fun _ => True) (fun _ _ => trivial)) (tm_nil _ _ _ _ _))
      rw [(sameT_iff (.mk 6 0 0 ⟨#[]⟩ [t, (.mk 2 pu pn ⟨#[]⟩ [])]) (.mk 6 0 0 ⟨#[]⟩ [t, (.mk 2 pu pn ⟨#[]⟩ [])])).2 rfl] at hx
      refine Calls.mono hx ?_
      clear hx
      rintro e' y36 ⟨rfl, hb⟩
      have HY37 := Lib.hid (show Below w.heap.size w y36 ∧ Blk y36 w.heap.size 24 (tmC kt ut nt st (.slice ot mt ct)) ∧ Blk y36 a1.heap.size 48 (partC pu pn ps) ∧ Blk y36 ga 24 (tmC 2 pu pn ⟨#[]⟩ (.slice none 0 0)) ∧ Blk y36 gk 24 (tmC kt ut nt st (.slice ot mt ct) ++ tmC 2 pu pn ⟨#[]⟩ (.slice none 0 0)) from ⟨below_thn HY34.out.1 hb (Nat.le_refl _), HY34.out.2.1.below hb HY34.out.2.1.lt, HY34.out.2.2.1.below hb HY34.out.2.2.1.lt, HY34.out.2.2.2.1.below hb HY34.out.2.2.2.1.lt, HY34.out.2.2.2.2.1.below hb HY34.out.2.2.2.2.1.lt⟩)
      clear hb
      go_wp2_with fail
      refine QK.normal ⟨⟨HY37.out.2.2.1.cell 0, HY37.out.2.2.1.cell 1, HY37.out.2.2.1.cell 2, rangeW_blk HY37.out.2.1, rangeW_blk HY37.out.2.2.2.1⟩, ?_⟩
      refine' wpAnyH_one 17 (by kernel_rfl) ?_ ?_; rotate_left; (simp only [List.getElem?_toArray, List.getElem?_cons_zero, List.getElem?_cons_succ]; rfl)
      try simp only [Act.put]
      go_wp2_with fail
      refine QK.normal ⟨⟨HY37.out.2.2.1.cell 0, HY37.out.2.2.1.cell 1, HY37.out.2.2.1.cell 2, rangeW_blk HY37.out.2.1, rangeW_blk HY37.out.2.2.2.1⟩, ?_⟩
      refine' wpAnyH_one 18 (by kernel_rfl) ?_ ?_; rotate_left; (simp only [List.getElem?_toArray, List.getElem?_cons_zero, List.getElem?_cons_succ]; rfl)
      try simp only [Act.put]
      go_wp2_with fail
      refine QK.normal ⟨⟨HY37.out.2.2.1.cell 0, HY37.out.2.2.1.cell 1, HY37.out.2.2.1.cell 2, rangeW_blk HY37.out.2.1, rangeW_blk HY37.out.2.2.2.1⟩, ?_⟩
      refine wpAnyH_done (by kernel_rfl) ?_ _
      refine NoPanic.normal ?_
      go_wp2_with fail
      refine wp_region_takes (fun w' => w'.cell? ⟨a1.heap.size, 0, none⟩ = some (.int .i64 pu) ∧ w'.cell? ⟨a1.heap.size, 1, none⟩ = some (.int .i64 pn) ∧ w'.cell? ⟨a1.heap.size, 2, none⟩ = some (.string ps) ∧ w'.rangeAt w.heap.size 0 (tmC kt ut nt st (.slice ot mt ct)) ∧ w'.rangeAt ga 0 (tmC 2 pu pn ⟨#[]⟩ (.slice none 0 0))) [0, 1, 2, 4, 5, 6] 4 (by kernel_rfl) rfl (by kernel_rfl) (by kernel_rfl) ⟨HY37.out.2.2.1.cell 0, HY37.out.2.2.1.cell 1, HY37.out.2.2.1.cell 2, rangeW_blk HY37.out.2.1, rangeW_blk HY37.out.2.2.2.1⟩ ?_
      iterate 6 (refine' HeldL.run ?_ ?_ ?_ ?_; rotate_left 2; (simp only [List.getElem?_toArray, List.getElem?_cons_zero, List.getElem?_cons_succ]; rfl); rfl; (rintro w' ⟨k0, k1, k2, k3, k4⟩; first | exact exec_load_mid rfl rfl k3 Try.underlying24 rfl (tmC_info _ _ _ _ _) | exact exec_load_mid rfl rfl k4 Try.underlying24 rfl (tmC_info _ _ _ _ _) | exact exec_build rfl (vs := #[(0, .int .i64 5), (4, .slice (some ⟨gk, 0, none⟩) 1 2)]) (by simp [Act.eval]) (Try.buildOf 5 (some ⟨gk, 0, none⟩) 1 2 w') | (go_simp; with_reducible rfl)); simp only [Act.put, List.setIfInBounds_toArray, List.set_cons_zero, List.set_cons_succ])
      have sm := (Sm.refl y36).drew
      have HV39 := Lib.hid (show Below w.heap.size w y36.drew ∧ Blk y36.drew w.heap.size 24 (tmC kt ut nt st (.slice ot mt ct)) ∧ Blk y36.drew a1.heap.size 48 (partC pu pn ps) ∧ Blk y36.drew ga 24 (tmC 2 pu pn ⟨#[]⟩ (.slice none 0 0)) ∧ Blk y36.drew gk 24 (tmC kt ut nt st (.slice ot mt ct) ++ tmC 2 pu pn ⟨#[]⟩ (.slice none 0 0)) from ⟨below_thn HY37.out.1 (sm.below _) (Nat.le_refl _), HY37.out.2.1.below (sm.below _) HY37.out.2.1.lt, HY37.out.2.2.1.below (sm.below _) HY37.out.2.2.1.lt, HY37.out.2.2.2.1.below (sm.below _) HY37.out.2.2.2.1.lt, HY37.out.2.2.2.2.below (sm.below _) HY37.out.2.2.2.2.lt⟩)
      clear sm
      generalize y36.drew = v38 at HV39 ⊢
      refine' wpAnyH_one 3 (by kernel_rfl) ?_ ?_; rotate_left; (simp only [List.getElem?_toArray, List.getElem?_cons_zero, List.getElem?_cons_succ]; rfl)
      try simp only [Act.put]
      go_wp2_with fail
      refine (hash_any kt ut nt st ot mt ct v38).mono ?_
      rintro e' y40 ⟨nb42, rfl, hbb, hbw, hb⟩
      have HY41 := Lib.hid (show Below w.heap.size w y40 ∧ Blk y40 w.heap.size 24 (tmC kt ut nt st (.slice ot mt ct)) ∧ Blk y40 a1.heap.size 48 (partC pu pn ps) ∧ Blk y40 ga 24 (tmC 2 pu pn ⟨#[]⟩ (.slice none 0 0)) ∧ Blk y40 gk 24 (tmC kt ut nt st (.slice ot mt ct) ++ tmC 2 pu pn ⟨#[]⟩ (.slice none 0 0)) ∧ TmC (fun _ => True) y40 (tmC 5 0 0 ⟨#[]⟩ (.slice (some ⟨nb42, 0, none⟩) 1 1)) (.mk 5 0 0 ⟨#[]⟩ [t]) from ⟨below_thn HV39.out.1 hb (Nat.le_refl _), HV39.out.2.1.below hb HV39.out.2.1.lt, HV39.out.2.2.1.below hb HV39.out.2.2.1.lt, HV39.out.2.2.2.1.below hb HV39.out.2.2.2.1.lt, HV39.out.2.2.2.2.below hb HV39.out.2.2.2.2.lt, OneP.tm hbb trivial (((HT.out.below HV39.out.1).mono (G := fun _ => True) (fun _ _ => trivial)).below hb)⟩)
      clear hbb hbw hb
      go_wp2_with fail
      refine QK.normal ⟨⟨HY41.out.2.2.1.cell 0, HY41.out.2.2.1.cell 1, HY41.out.2.2.1.cell 2, rangeW_blk HY41.out.2.1, rangeW_blk HY41.out.2.2.2.1⟩, ?_⟩
      refine' wpAnyH_one 7 (by kernel_rfl) ?_ ?_; rotate_left; (simp only [List.getElem?_toArray, List.getElem?_cons_zero, List.getElem?_cons_succ]; rfl)
      try simp only [Act.put]
      go_wp2_with fail
      have hx := rsame_any5 (.mk 5 0 0 ⟨#[]⟩ [t]) (.mk 5 0 0 ⟨#[]⟩ [t]) _ _ _ _ y40 HY41.out.2.2.2.2.2 (TmC_iff.2 ⟨_, rfl, SlT.pre1 HY41.out.2.2.2.2.1 trivial ((HT.out.below HY41.out.1).mono (G := fun _ => True) (fun _ _ => trivial))⟩)
      rw [(sameT_iff (.mk 5 0 0 ⟨#[]⟩ [t]) (.mk 5 0 0 ⟨#[]⟩ [t])).2 rfl] at hx
      refine Calls.mono hx ?_
      clear hx
      rintro e' y43 ⟨rfl, hb⟩
      have HY44 := Lib.hid (show Below w.heap.size w y43 ∧ Blk y43 w.heap.size 24 (tmC kt ut nt st (.slice ot mt ct)) ∧ Blk y43 a1.heap.size 48 (partC pu pn ps) ∧ Blk y43 ga 24 (tmC 2 pu pn ⟨#[]⟩ (.slice none 0 0)) ∧ Blk y43 gk 24 (tmC kt ut nt st (.slice ot mt ct) ++ tmC 2 pu pn ⟨#[]⟩ (.slice none 0 0)) from ⟨below_thn HY41.out.1 hb (Nat.le_refl _), HY41.out.2.1.below hb HY41.out.2.1.lt, HY41.out.2.2.1.below hb HY41.out.2.2.1.lt, HY41.out.2.2.2.1.below hb HY41.out.2.2.2.1.lt, HY41.out.2.2.2.2.1.below hb HY41.out.2.2.2.2.1.lt⟩)
      clear hb
      go_wp2_with fail
      refine QK.normal ⟨⟨HY44.out.2.2.1.cell 0, HY44.out.2.2.1.cell 1, HY44.out.2.2.1.cell 2, rangeW_blk HY44.out.2.1, rangeW_blk HY44.out.2.2.2.1⟩, ?_⟩
      refine' wpAnyH_one 8 (by kernel_rfl) ?_ ?_; rotate_left; (simp only [List.getElem?_toArray, List.getElem?_cons_zero, List.getElem?_cons_succ]; rfl)
      try simp only [Act.put]
      go_wp2_with fail
      refine QK.normal ⟨⟨HY44.out.2.2.1.cell 0, HY44.out.2.2.1.cell 1, HY44.out.2.2.1.cell 2, rangeW_blk HY44.out.2.1, rangeW_blk HY44.out.2.2.2.1⟩, ?_⟩
      refine' wpAnyH_one 9 (by kernel_rfl) ?_ ?_; rotate_left; (simp only [List.getElem?_toArray, List.getElem?_cons_zero, List.getElem?_cons_succ]; rfl)
      try simp only [Act.put]
      go_wp2_with fail
      refine QK.normal ⟨⟨HY44.out.2.2.1.cell 0, HY44.out.2.2.1.cell 1, HY44.out.2.2.1.cell 2, rangeW_blk HY44.out.2.1, rangeW_blk HY44.out.2.2.2.1⟩, ?_⟩
      refine wpAnyH_done (by kernel_rfl) ?_ _
      refine NoPanic.normal ?_
      go_wp2_with fail
      refine wp_region_takes (fun w' => w'.cell? ⟨a1.heap.size, 0, none⟩ = some (.int .i64 pu) ∧ w'.cell? ⟨a1.heap.size, 1, none⟩ = some (.int .i64 pn) ∧ w'.cell? ⟨a1.heap.size, 2, none⟩ = some (.string ps) ∧ w'.rangeAt w.heap.size 0 (tmC kt ut nt st (.slice ot mt ct)) ∧ w'.rangeAt ga 0 (tmC 2 pu pn ⟨#[]⟩ (.slice none 0 0))) [0, 1, 2, 3, 4, 6, 7, 8, 9, 10] 4 (by kernel_rfl) rfl (by kernel_rfl) (by kernel_rfl) ⟨HY44.out.2.2.1.cell 0, HY44.out.2.2.1.cell 1, HY44.out.2.2.1.cell 2, rangeW_blk HY44.out.2.1, rangeW_blk HY44.out.2.2.2.1⟩ ?_
      iterate 10 (refine' HeldL.run ?_ ?_ ?_ ?_; rotate_left 2; (simp only [List.getElem?_toArray, List.getElem?_cons_zero, List.getElem?_cons_succ]; rfl); rfl; (rintro w' ⟨k0, k1, k2, k3, k4⟩; first | exact exec_load_mid rfl rfl k3 Try.underlying24 rfl (tmC_info _ _ _ _ _) | exact exec_load_mid rfl rfl k4 Try.underlying24 rfl (tmC_info _ _ _ _ _) | exact exec_build rfl (vs := #[(0, .int .i64 7), (1, .int .i64 pu), (4, .slice (some ⟨gk, 0, none⟩) 1 2)]) (by simp [Act.eval]) (Try.buildSeal 7 pu (some ⟨gk, 0, none⟩) 1 2 w') | (go_simp; with_reducible rfl)); simp only [Act.put, List.setIfInBounds_toArray, List.set_cons_zero, List.set_cons_succ])
      have sm := (Sm.refl y43).drew
      have HV46 := Lib.hid (show Below w.heap.size w y43.drew ∧ Blk y43.drew w.heap.size 24 (tmC kt ut nt st (.slice ot mt ct)) ∧ Blk y43.drew a1.heap.size 48 (partC pu pn ps) ∧ Blk y43.drew ga 24 (tmC 2 pu pn ⟨#[]⟩ (.slice none 0 0)) ∧ Blk y43.drew gk 24 (tmC kt ut nt st (.slice ot mt ct) ++ tmC 2 pu pn ⟨#[]⟩ (.slice none 0 0)) from ⟨below_thn HY44.out.1 (sm.below _) (Nat.le_refl _), HY44.out.2.1.below (sm.below _) HY44.out.2.1.lt, HY44.out.2.2.1.below (sm.below _) HY44.out.2.2.1.lt, HY44.out.2.2.2.1.below (sm.below _) HY44.out.2.2.2.1.lt, HY44.out.2.2.2.2.below (sm.below _) HY44.out.2.2.2.2.lt⟩)
      clear sm
      generalize y43.drew = v45 at HV46 ⊢
      refine' wpAnyH_one 5 (by kernel_rfl) ?_ ?_; rotate_left; (simp only [List.getElem?_toArray, List.getElem?_cons_zero, List.getElem?_cons_succ]; rfl)
      try simp only [Act.put]
      go_wp2_with fail
      refine (seal_any pu kt ut nt st ot mt ct v45).mono ?_
      rintro e' y47 ⟨nb49, rfl, hbb, hbw, hb⟩
      have HY48 := Lib.hid (show Below w.heap.size w y47 ∧ Blk y47 w.heap.size 24 (tmC kt ut nt st (.slice ot mt ct)) ∧ Blk y47 a1.heap.size 48 (partC pu pn ps) ∧ Blk y47 ga 24 (tmC 2 pu pn ⟨#[]⟩ (.slice none 0 0)) ∧ Blk y47 gk 24 (tmC kt ut nt st (.slice ot mt ct) ++ tmC 2 pu pn ⟨#[]⟩ (.slice none 0 0)) ∧ TmC (fun _ => True) y47 (tmC 7 pu 0 ⟨#[]⟩ (.slice (some ⟨nb49, 0, none⟩) 1 1)) (.mk 7 pu 0 ⟨#[]⟩ [t]) from ⟨below_thn HV46.out.1 hb (Nat.le_refl _), HV46.out.2.1.below hb HV46.out.2.1.lt, HV46.out.2.2.1.below hb HV46.out.2.2.1.lt, HV46.out.2.2.2.1.below hb HV46.out.2.2.2.1.lt, HV46.out.2.2.2.2.below hb HV46.out.2.2.2.2.lt, OneP.tm hbb trivial (((HT.out.below HV46.out.1).mono (G := fun _ => True) (fun _ _ => trivial)).below hb)⟩)
      clear hbb hbw hb
      go_wp2_with fail
      refine QK.normal ⟨⟨HY48.out.2.2.1.cell 0, HY48.out.2.2.1.cell 1, HY48.out.2.2.1.cell 2, rangeW_blk HY48.out.2.1, rangeW_blk HY48.out.2.2.2.1⟩, ?_⟩
      refine' wpAnyH_one 11 (by kernel_rfl) ?_ ?_; rotate_left; (simp only [List.getElem?_toArray, List.getElem?_cons_zero, List.getElem?_cons_succ]; rfl)
      try simp only [Act.put]
      go_wp2_with fail
      have hx := rsame_any5 (.mk 7 pu 0 ⟨#[]⟩ [t]) (.mk 7 pu 0 ⟨#[]⟩ [t]) _ _ _ _ y47 HY48.out.2.2.2.2.2 (TmC_iff.2 ⟨_, rfl, SlT.pre1 HY48.out.2.2.2.2.1 trivial ((HT.out.below HY48.out.1).mono (G := fun _ => True) (fun _ _ => trivial))⟩)
      rw [(sameT_iff (.mk 7 pu 0 ⟨#[]⟩ [t]) (.mk 7 pu 0 ⟨#[]⟩ [t])).2 rfl] at hx
      refine Calls.mono hx ?_
      clear hx
      rintro e' y50 ⟨rfl, hb⟩
      have HY51 := Lib.hid (show Below w.heap.size w y50 ∧ Blk y50 w.heap.size 24 (tmC kt ut nt st (.slice ot mt ct)) ∧ Blk y50 a1.heap.size 48 (partC pu pn ps) ∧ Blk y50 ga 24 (tmC 2 pu pn ⟨#[]⟩ (.slice none 0 0)) ∧ Blk y50 gk 24 (tmC kt ut nt st (.slice ot mt ct) ++ tmC 2 pu pn ⟨#[]⟩ (.slice none 0 0)) from ⟨below_thn HY48.out.1 hb (Nat.le_refl _), HY48.out.2.1.below hb HY48.out.2.1.lt, HY48.out.2.2.1.below hb HY48.out.2.2.1.lt, HY48.out.2.2.2.1.below hb HY48.out.2.2.2.1.lt, HY48.out.2.2.2.2.1.below hb HY48.out.2.2.2.2.1.lt⟩)
      clear hb
      go_wp2_with fail
      refine QK.normal ⟨⟨HY51.out.2.2.1.cell 0, HY51.out.2.2.1.cell 1, HY51.out.2.2.1.cell 2, rangeW_blk HY51.out.2.1, rangeW_blk HY51.out.2.2.2.1⟩, ?_⟩
      refine' wpAnyH_one 12 (by kernel_rfl) ?_ ?_; rotate_left; (simp only [List.getElem?_toArray, List.getElem?_cons_zero, List.getElem?_cons_succ]; rfl)
      try simp only [Act.put]
      go_wp2_with fail
      refine QK.normal ⟨⟨HY51.out.2.2.1.cell 0, HY51.out.2.2.1.cell 1, HY51.out.2.2.1.cell 2, rangeW_blk HY51.out.2.1, rangeW_blk HY51.out.2.2.2.1⟩, ?_⟩
      refine' wpAnyH_one 13 (by kernel_rfl) ?_ ?_; rotate_left; (simp only [List.getElem?_toArray, List.getElem?_cons_zero, List.getElem?_cons_succ]; rfl)
      try simp only [Act.put]
      go_wp2_with fail
      refine QK.normal ⟨⟨HY51.out.2.2.1.cell 0, HY51.out.2.2.1.cell 1, HY51.out.2.2.1.cell 2, rangeW_blk HY51.out.2.1, rangeW_blk HY51.out.2.2.2.1⟩, ?_⟩
      refine wpAnyH_done (by kernel_rfl) ?_ _
      refine NoPanic.normal ?_
      go_wp2_with fail
      refine wp_region_takes (fun w' => w'.cell? ⟨a1.heap.size, 0, none⟩ = some (.int .i64 pu) ∧ w'.cell? ⟨a1.heap.size, 1, none⟩ = some (.int .i64 pn) ∧ w'.cell? ⟨a1.heap.size, 2, none⟩ = some (.string ps) ∧ w'.rangeAt w.heap.size 0 (tmC kt ut nt st (.slice ot mt ct)) ∧ w'.rangeAt ga 0 (tmC 2 pu pn ⟨#[]⟩ (.slice none 0 0))) [0, 1, 2, 3, 4, 5, 6, 8, 9, 10, 11, 12, 13, 14] 4 (by kernel_rfl) rfl (by kernel_rfl) (by kernel_rfl) ⟨HY51.out.2.2.1.cell 0, HY51.out.2.2.1.cell 1, HY51.out.2.2.1.cell 2, rangeW_blk HY51.out.2.1, rangeW_blk HY51.out.2.2.2.1⟩ ?_
      iterate 14 (refine' HeldL.run ?_ ?_ ?_ ?_; rotate_left 2; (simp only [List.getElem?_toArray, List.getElem?_cons_zero, List.getElem?_cons_succ]; rfl); rfl; (rintro w' ⟨k0, k1, k2, k3, k4⟩; first | exact exec_load_mid rfl rfl k3 Try.underlying24 rfl (tmC_info _ _ _ _ _) | exact exec_load_mid rfl rfl k4 Try.underlying24 rfl (tmC_info _ _ _ _ _) | exact exec_build rfl (vs := #[(0, .int .i64 8), (1, .int .i64 pu), (2, .int .i64 pn), (4, .slice (some ⟨gk, 0, none⟩) 1 2)]) (by simp [Act.eval]) (Try.buildSign 8 pu pn (some ⟨gk, 0, none⟩) 1 2 w') | (go_simp; with_reducible rfl)); simp only [Act.put, List.setIfInBounds_toArray, List.set_cons_zero, List.set_cons_succ])
      have sm := (Sm.refl y50).drew
      have HV53 := Lib.hid (show Below w.heap.size w y50.drew ∧ Blk y50.drew w.heap.size 24 (tmC kt ut nt st (.slice ot mt ct)) ∧ Blk y50.drew a1.heap.size 48 (partC pu pn ps) ∧ Blk y50.drew ga 24 (tmC 2 pu pn ⟨#[]⟩ (.slice none 0 0)) ∧ Blk y50.drew gk 24 (tmC kt ut nt st (.slice ot mt ct) ++ tmC 2 pu pn ⟨#[]⟩ (.slice none 0 0)) from ⟨below_thn HY51.out.1 (sm.below _) (Nat.le_refl _), HY51.out.2.1.below (sm.below _) HY51.out.2.1.lt, HY51.out.2.2.1.below (sm.below _) HY51.out.2.2.1.lt, HY51.out.2.2.2.1.below (sm.below _) HY51.out.2.2.2.1.lt, HY51.out.2.2.2.2.below (sm.below _) HY51.out.2.2.2.2.lt⟩)
      clear sm
      generalize y50.drew = v52 at HV53 ⊢
      refine' wpAnyH_one 7 (by kernel_rfl) ?_ ?_; rotate_left; (simp only [List.getElem?_toArray, List.getElem?_cons_zero, List.getElem?_cons_succ]; rfl)
      try simp only [Act.put]
      go_wp2_with fail
      refine (sign5_any pu pn kt ut nt st ot mt ct v52).mono ?_
      rintro e' y54 ⟨nb56, rfl, hbb, hbw, hb⟩
      have HY55 := Lib.hid (show Below w.heap.size w y54 ∧ Blk y54 w.heap.size 24 (tmC kt ut nt st (.slice ot mt ct)) ∧ Blk y54 a1.heap.size 48 (partC pu pn ps) ∧ Blk y54 ga 24 (tmC 2 pu pn ⟨#[]⟩ (.slice none 0 0)) ∧ Blk y54 gk 24 (tmC kt ut nt st (.slice ot mt ct) ++ tmC 2 pu pn ⟨#[]⟩ (.slice none 0 0)) ∧ TmC (fun _ => True) y54 (tmC 8 pu pn ⟨#[]⟩ (.slice (some ⟨nb56, 0, none⟩) 1 1)) (.mk 8 pu pn ⟨#[]⟩ [t]) from ⟨below_thn HV53.out.1 hb (Nat.le_refl _), HV53.out.2.1.below hb HV53.out.2.1.lt, HV53.out.2.2.1.below hb HV53.out.2.2.1.lt, HV53.out.2.2.2.1.below hb HV53.out.2.2.2.1.lt, HV53.out.2.2.2.2.below hb HV53.out.2.2.2.2.lt, OneP.tm hbb trivial (((HT.out.below HV53.out.1).mono (G := fun _ => True) (fun _ _ => trivial)).below hb)⟩)
      clear hbb hbw hb
      go_wp2_with fail
      refine QK.normal ⟨⟨HY55.out.2.2.1.cell 0, HY55.out.2.2.1.cell 1, HY55.out.2.2.1.cell 2, rangeW_blk HY55.out.2.1, rangeW_blk HY55.out.2.2.2.1⟩, ?_⟩
      refine' wpAnyH_one 15 (by kernel_rfl) ?_ ?_; rotate_left; (simp only [List.getElem?_toArray, List.getElem?_cons_zero, List.getElem?_cons_succ]; rfl)
      try simp only [Act.put]
      go_wp2_with fail
      have hx := rsame_any5 (.mk 8 pu pn ⟨#[]⟩ [t]) (.mk 8 pu pn ⟨#[]⟩ [t]) _ _ _ _ y54 HY55.out.2.2.2.2.2 (TmC_iff.2 ⟨_, rfl, SlT.pre1 HY55.out.2.2.2.2.1 trivial ((HT.out.below HY55.out.1).mono (G := fun _ => True) (fun _ _ => trivial))⟩)
      rw [(sameT_iff (.mk 8 pu pn ⟨#[]⟩ [t]) (.mk 8 pu pn ⟨#[]⟩ [t])).2 rfl] at hx
      refine Calls.mono hx ?_
      clear hx
      rintro e' y57 ⟨rfl, hb⟩
      have HY58 := Lib.hid (show Below w.heap.size w y57 ∧ Blk y57 w.heap.size 24 (tmC kt ut nt st (.slice ot mt ct)) ∧ Blk y57 a1.heap.size 48 (partC pu pn ps) ∧ Blk y57 ga 24 (tmC 2 pu pn ⟨#[]⟩ (.slice none 0 0)) ∧ Blk y57 gk 24 (tmC kt ut nt st (.slice ot mt ct) ++ tmC 2 pu pn ⟨#[]⟩ (.slice none 0 0)) from ⟨below_thn HY55.out.1 hb (Nat.le_refl _), HY55.out.2.1.below hb HY55.out.2.1.lt, HY55.out.2.2.1.below hb HY55.out.2.2.1.lt, HY55.out.2.2.2.1.below hb HY55.out.2.2.2.1.lt, HY55.out.2.2.2.2.1.below hb HY55.out.2.2.2.2.1.lt⟩)
      clear hb
      go_wp2_with fail
      refine QK.normal ⟨⟨HY58.out.2.2.1.cell 0, HY58.out.2.2.1.cell 1, HY58.out.2.2.1.cell 2, rangeW_blk HY58.out.2.1, rangeW_blk HY58.out.2.2.2.1⟩, ?_⟩
      refine' wpAnyH_one 16 (by kernel_rfl) ?_ ?_; rotate_left; (simp only [List.getElem?_toArray, List.getElem?_cons_zero, List.getElem?_cons_succ]; rfl)
      try simp only [Act.put]
      go_wp2_with fail
      refine QK.normal ⟨⟨HY58.out.2.2.1.cell 0, HY58.out.2.2.1.cell 1, HY58.out.2.2.1.cell 2, rangeW_blk HY58.out.2.1, rangeW_blk HY58.out.2.2.2.1⟩, ?_⟩
      refine' wpAnyH_one 17 (by kernel_rfl) ?_ ?_; rotate_left; (simp only [List.getElem?_toArray, List.getElem?_cons_zero, List.getElem?_cons_succ]; rfl)
      try simp only [Act.put]
      go_wp2_with fail
      refine QK.normal ⟨⟨HY58.out.2.2.1.cell 0, HY58.out.2.2.1.cell 1, HY58.out.2.2.1.cell 2, rangeW_blk HY58.out.2.1, rangeW_blk HY58.out.2.2.2.1⟩, ?_⟩
      refine wpAnyH_done (by kernel_rfl) ?_ _
      refine NoPanic.normal ?_
      go_wp2_with fail
      refine (list_any ts (.slice ao m c) _ y57 (HSL.out.below HY58.out.1) (by rw [HM.out]; omega)).mono ?_
      rintro e' y59 ⟨cl1, F', rfl, htm, hb⟩
      have HY60 := Lib.hid (show Below w.heap.size w y59 ∧ Blk y59 w.heap.size 24 (tmC kt ut nt st (.slice ot mt ct)) ∧ Blk y59 a1.heap.size 48 (partC pu pn ps) ∧ Blk y59 ga 24 (tmC 2 pu pn ⟨#[]⟩ (.slice none 0 0)) ∧ Blk y59 gk 24 (tmC kt ut nt st (.slice ot mt ct) ++ tmC 2 pu pn ⟨#[]⟩ (.slice none 0 0)) ∧ (∃ Fq, TmC Fq y59 cl1 (listT ts)) from ⟨below_thn HY58.out.1 hb (Nat.le_refl _), HY58.out.2.1.below hb HY58.out.2.1.lt, HY58.out.2.2.1.below hb HY58.out.2.2.1.lt, HY58.out.2.2.2.1.below hb HY58.out.2.2.2.1.lt, HY58.out.2.2.2.2.below hb HY58.out.2.2.2.2.lt, ⟨_, htm⟩⟩)
      clear htm hb
      go_wp2_with fail
      refine (rlist_any ts (.slice ao m c) _ y59 (HSL.out.below HY60.out.1) (by rw [HM.out]; omega)).mono ?_
      rintro e' y61 ⟨cl2, F', rfl, htm, hb⟩
      have HY62 := Lib.hid (show Below w.heap.size w y61 ∧ Blk y61 w.heap.size 24 (tmC kt ut nt st (.slice ot mt ct)) ∧ Blk y61 a1.heap.size 48 (partC pu pn ps) ∧ Blk y61 ga 24 (tmC 2 pu pn ⟨#[]⟩ (.slice none 0 0)) ∧ Blk y61 gk 24 (tmC kt ut nt st (.slice ot mt ct) ++ tmC 2 pu pn ⟨#[]⟩ (.slice none 0 0)) ∧ (∃ Fq, TmC Fq y61 cl1 (listT ts)) ∧ (∃ Fq, TmC Fq y61 cl2 (listT ts)) from ⟨below_thn HY60.out.1 hb (Nat.le_refl _), HY60.out.2.1.below hb HY60.out.2.1.lt, HY60.out.2.2.1.below hb HY60.out.2.2.1.lt, HY60.out.2.2.2.1.below hb HY60.out.2.2.2.1.lt, HY60.out.2.2.2.2.1.below hb HY60.out.2.2.2.2.1.lt, (let ⟨_, h⟩ := HY60.out.2.2.2.2.2; ⟨_, h.below hb⟩), ⟨_, htm⟩⟩)
      clear htm hb
      go_wp2_with fail
      obtain ⟨F1, q1⟩ := HY62.out.2.2.2.2.2.1
      obtain ⟨F2, q2⟩ := HY62.out.2.2.2.2.2.2
      have hx := rsame_any5 (listT ts) (listT ts) _ _ _ _ y61 q1 q2
      rw [(sameT_iff (listT ts) (listT ts)).2 rfl] at hx
      refine Calls.mono hx ?_
      clear hx
      rintro e' y63 ⟨rfl, hb⟩
      have HY64 := Lib.hid (show Below w.heap.size w y63 ∧ Blk y63 w.heap.size 24 (tmC kt ut nt st (.slice ot mt ct)) from ⟨below_thn HY62.out.1 hb (Nat.le_refl _), HY62.out.2.1.below hb HY62.out.2.1.lt⟩)
      clear hb
      clear q1 q2
      go_wp2_with (first
    | (with_reducible refine wpList_load_any rfl 24 (.tmp 4) rfl w.heap.size 0 rfl (tmC kt ut nt st (.slice ot mt ct)) _ (rangeW_blk HY64.out.2) Try.underlying24 rfl (tmC_info _ _ _ _ _) ?_))
      have hu := unlist_any t _ _ y63 (HT.out.below HY64.out.1)
      by_cases hz : sizeT t = 0
      · rw [unlS_bad hz] at hu
        obtain rfl : zt = false := by rw [← EZ.out]; simpa using hz
        clear hz
        refine Calls.mono hu ?_
        clear hu
        rintro e' y65 (⟨_, _, _, h, -⟩ | ⟨-, rfl, hb⟩)
        · cases h
        have HY66 := Lib.hid (show Below w.heap.size w y65 ∧ Blk y65 w.heap.size 24 (tmC kt ut nt st (.slice ot mt ct)) from ⟨below_thn HY64.out.1 hb (Nat.le_refl _), HY64.out.2.below hb HY64.out.2.lt⟩)
        clear hb
        go_wp2_with (first
    | (with_reducible refine wpList_load_any rfl 24 (.tmp 4) rfl w.heap.size 0 rfl (tmC kt ut nt st (.slice ot mt ct)) _ (rangeW_blk HY66.out.2) Try.underlying24 rfl (tmC_info _ _ _ _ _) ?_))
        have hx := rright_any t _ _ y65 (HT.out.below HY66.out.1)
        rw [EZ.out] at hx
        refine Calls.mono hx ?_
        clear hx
        rintro e' y67 ⟨rfl, hb⟩
        have HY68 := Lib.hid (show Below w.heap.size w y67 ∧ Blk y67 w.heap.size 24 (tmC kt ut nt st (.slice ot mt ct)) from ⟨below_thn HY66.out.1 hb (Nat.le_refl _), HY66.out.2.below hb HY66.out.2.lt⟩)
        clear hb
        go_wp2_with fail
        go_ret
        exact ⟨rfl, HY68.out.1⟩
      · have hq : unlS t = unl t := by unfold unlS; rw [if_neg hz]
        rw [hq] at hu
        obtain rfl : zt = true := by rw [← EZ.out]; exact decide_eq_true hz
        have GT := Lib.hid (sizeT_good hz)
        clear hz hq
        obtain ⟨R, hR⟩ : ∃ R, unl t = R := ⟨_, rfl⟩
        have HR := Lib.hid hR
        rw [hR] at hu
        clear hR
        have HUL := Lib.hid (unl_len t)
        refine Calls.mono hu ?_
        clear hu
        rintro e' y69 (⟨tl, og, cg, h, rfl, hk, hb⟩ | ⟨h, rfl, hb⟩)
        · subst h
          have HY70 := Lib.hid (show Below w.heap.size w y69 ∧ Blk y69 w.heap.size 24 (tmC kt ut nt st (.slice ot mt ct)) ∧ (∃ B lo, KidJ B lo (.slice og tl.length cg) tl y69) from ⟨below_thn HY64.out.1 hb (Nat.le_refl _), HY64.out.2.below hb HY64.out.2.lt, ⟨_, _, hk⟩⟩)
          clear hk hb
          go_wp2_with (first
    | (with_reducible refine wpList_load_any rfl 24 (.tmp 4) rfl w.heap.size 0 rfl (tmC kt ut nt st (.slice ot mt ct)) _ (rangeW_blk HY70.out.2.1) Try.underlying24 rfl (tmC_info _ _ _ _ _) ?_))
          have hx := rright_any t _ _ y69 (HT.out.below HY70.out.1)
          rw [EZ.out] at hx
          refine Calls.mono hx ?_
          clear hx
          rintro e' y71 ⟨rfl, hb⟩
          have HY72 := Lib.hid (show Below w.heap.size w y71 ∧ Blk y71 w.heap.size 24 (tmC kt ut nt st (.slice ot mt ct)) ∧ (∃ B lo, KidJ B lo (.slice og tl.length cg) tl y71) from ⟨below_thn HY70.out.1 hb (Nat.le_refl _), HY70.out.2.1.below hb HY70.out.2.1.lt, (let ⟨_, _, h⟩ := HY70.out.2.2; ⟨_, _, h.below hb⟩)⟩)
          clear hb
          go_wp2_with (first
    | (with_reducible refine wpList_load_any rfl 24 (.tmp 4) rfl w.heap.size 0 rfl (tmC kt ut nt st (.slice ot mt ct)) _ (rangeW_blk HY72.out.2.1) Try.underlying24 rfl (tmC_info _ _ _ _ _) ?_))
          have hx := runlist_any t _ w.heap.size y71 GT.out.1 GT.out.2.2.1 HY72.out.1.size (HT.out.below HY72.out.1)
          rw [HR.out] at hx
          refine Calls.mono hx ?_
          clear hx
          rintro e' y73 (⟨tl', og2, cg2, h, rfl, hk, hb⟩ | ⟨h, -⟩)
          rotate_left
          · cases h
          obtain rfl : tl = tl' := by injection h
          have HY74 := Lib.hid (show Below w.heap.size w y73 ∧ Blk y73 w.heap.size 24 (tmC kt ut nt st (.slice ot mt ct)) ∧ (∃ B lo, KidJ B lo (.slice og tl.length cg) tl y73) ∧ (∃ B lo, KidJ B lo (.slice og2 tl.length cg2) tl y73) from ⟨below_thn HY72.out.1 hb (Nat.le_refl _), HY72.out.2.1.below hb HY72.out.2.1.lt, (let ⟨_, _, h⟩ := HY72.out.2.2; ⟨_, _, h.below hb⟩), ⟨_, _, hk⟩⟩)
          clear hk hb h
          go_wp2_with fail
          obtain ⟨_, _, q1⟩ := HY74.out.2.2.1
          obtain ⟨_, _, q2⟩ := HY74.out.2.2.2
          have hx := rsameall_any tl _ _ _ _ y73 q1.slt q2.slt (by have := HUL.out tl HR.out; have := GT.out.2.2.1; omega)
          refine Calls.mono hx ?_
          clear hx
          rintro e' y75 ⟨rfl, hb⟩
          have HY76 := Lib.hid (show Below w.heap.size w y75 ∧ Blk y75 w.heap.size 24 (tmC kt ut nt st (.slice ot mt ct)) from ⟨below_thn HY74.out.1 hb (Nat.le_refl _), HY74.out.2.1.below hb HY74.out.2.1.lt⟩)
          clear hb
          go_wp2_with fail
          go_ret
          exact ⟨rfl, HY76.out.1⟩
        · subst h
          have HY70 := Lib.hid (show Below w.heap.size w y69 ∧ Blk y69 w.heap.size 24 (tmC kt ut nt st (.slice ot mt ct)) from ⟨below_thn HY64.out.1 hb (Nat.le_refl _), HY64.out.2.below hb HY64.out.2.lt⟩)
          clear hb
          go_wp2_with (first
    | (with_reducible refine wpList_load_any rfl 24 (.tmp 4) rfl w.heap.size 0 rfl (tmC kt ut nt st (.slice ot mt ct)) _ (rangeW_blk HY70.out.2) Try.underlying24 rfl (tmC_info _ _ _ _ _) ?_))
          have hx := rright_any t _ _ y69 (HT.out.below HY70.out.1)
          rw [EZ.out] at hx
          refine Calls.mono hx ?_
          clear hx
          rintro e' y77 ⟨rfl, hb⟩
          have HY78 := Lib.hid (show Below w.heap.size w y77 ∧ Blk y77 w.heap.size 24 (tmC kt ut nt st (.slice ot mt ct)) from ⟨below_thn HY70.out.1 hb (Nat.le_refl _), HY70.out.2.below hb HY70.out.2.lt⟩)
          clear hb
          go_wp2_with (first
    | (with_reducible refine wpList_load_any rfl 24 (.tmp 4) rfl w.heap.size 0 rfl (tmC kt ut nt st (.slice ot mt ct)) _ (rangeW_blk HY78.out.2) Try.underlying24 rfl (tmC_info _ _ _ _ _) ?_))
          have hx := runlist_any t _ w.heap.size y77 GT.out.1 GT.out.2.2.1 HY78.out.1.size (HT.out.below HY78.out.1)
          rw [HR.out] at hx
          refine Calls.mono hx ?_
          clear hx
          rintro e' y79 (⟨_, _, _, h, -⟩ | ⟨-, rfl, hb⟩)
          · cases h
          have HY80 := Lib.hid (show Below w.heap.size w y79 ∧ Blk y79 w.heap.size 24 (tmC kt ut nt st (.slice ot mt ct)) from ⟨below_thn HY78.out.1 hb (Nat.le_refl _), HY78.out.2.below hb HY78.out.2.lt⟩)
          clear hb
          go_wp2_with fail
          have hx := rsameall_any [] _ _ (fun _ => True) (fun _ => True) y79 (SlT.nil _ _) (SlT.nil _ _) (by simp)
          refine Calls.mono hx ?_
          clear hx
          rintro e' y81 ⟨rfl, hb⟩
          have HY82 := Lib.hid (show Below w.heap.size w y81 ∧ Blk y81 w.heap.size 24 (tmC kt ut nt st (.slice ot mt ct)) from ⟨below_thn HY80.out.1 hb (Nat.le_refl _), HY80.out.2.below hb HY80.out.2.lt⟩)
          clear hb
          go_wp2_with fail
          go_ret
          exact ⟨rfl, HY82.out.1⟩


end Go.Proofs.Ytfenikoajadiaaa
