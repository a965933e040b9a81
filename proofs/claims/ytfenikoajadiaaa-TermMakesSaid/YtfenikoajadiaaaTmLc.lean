/-
  Layer 5: law 05: TermLists, walked. Conditions: none.
-/
import Derived.Test.YtfenikoajadiaaaTmLb
import Derived.Test.YtfenikoajadiaaaTmX
import Derived.Test.YtfenikoajadiaaaFrameT
namespace Go.Proofs.Ytfenikoajadiaaa
open Go Go.RowKit
set_option linter.unusedSimpArgs false
set_option linter.unusedVariables false


theorem unl_textE : unl textE = some [] := by unfold textE; rw [unl, if_neg (by decide), if_pos ⟨rfl, rfl⟩]
theorem unl_list : ∀ ts : List Tm, unl (listT ts) = some ts
  | [] => unl_textE
  | t :: ts => by
    have h := unl_list ts
    unfold listT at h ⊢
    rw [List.foldr_cons]
    unfold pairT
    rw [unl_pair]
    unfold pairT at h
    rw [h]; rfl
theorem unlS_bad {t : Tm} (h : sizeT t = 0) : unlS t = none := by unfold unlS; rw [if_pos h]
theorem unlS_list {ts : List Tm} (h : sizeT (listT ts) ≠ 0) : unlS (listT ts) = some ts := by unfold unlS; rw [if_neg h, unl_list]
theorem checkN_b {t : Tm} (h : sizeT t = 0) : checkN t = 150 := if_pos h
theorem checkN_o {t : Tm} (h : sizeT t ≠ 0) : checkN t = 0 := if_neg h


set_option maxRecDepth 100000 in
set_option maxHeartbeats 16000000 in
theorem termLists_walk (v : Value) (ts : List Tm) (w : World) (hts : SlT AnyF w v ts) : Calls Try.prog 7 #[v] w (TrueP w) := by
  obtain ⟨ao, c, rfl, hmc, hcm, -⟩ := id hts
  obtain ⟨m, hm⟩ : ∃ m, ts.length = m := ⟨_, rfl⟩
  have HM := Lib.hid hm
  rw [hm] at hts hmc ⊢
  have HSL := Lib.hid hts.old
  obtain ⟨T, hT⟩ : ∃ T, listT ts = T := ⟨_, rfl⟩
  have HT := Lib.hid hT
  have hm63 : m ≤ 9223372036854775807 := by unfold maxLen at hcm; omega
  clear hts hm hmc hcm hT
  have H0 := Lib.hid (Below.refl w.heap.size w)
  go_enter Try.func7, Try.ntmps7
  go_wp2_with fail
  have hx := wakes5_any w
  refine Calls.mono hx ?_
  clear hx
  rintro e' y1 ⟨rfl, hb⟩
  have HY2 := Lib.hid (show Below w.heap.size w y1 from below_thn H0.out hb (Nat.le_refl _))
  clear hb
  by_cases hbig : 100 < m
  · have e1 : decide ((100 : Int) < (m : Int)) = true := by simp; omega
    clear hbig
    go_wp2_with fail
    go_ret
    exact ⟨rfl, HY2.out⟩
  have e1 : decide ((100 : Int) < (m : Int)) = false := by simp; omega
  have h100 : m ≤ 100 := by omega
  clear hbig
  go_wp2_with fail
  go_loopw [16] (fun i wr => ∃ j : Nat, i = .int .i64 j ∧ j ≤ m ∧ Hid (Below w.heap.size w wr)) (fun i _ => m - (intOf i).toNat)
  case atStart => exact ⟨0, rfl, Nat.zero_le _, HY2⟩
  case round =>
    clear HY2
    obtain ⟨j, rfl, hj, HZ⟩ := hrel
    by_cases hlt : j < m
    · have hjk : j < ts.length := by rw [HM.out]; exact hlt
      have hjz : (j : Int) < (m : Int) := by omega
      have hj0 : (0 : Int) ≤ (j : Int) := by omega
      obtain ⟨b, o, csj, rfl, -, -, hra, htm⟩ := (HSL.out.below HZ.out).get hjk
      generalize ts[j] = kj at htm
      obtain ⟨aj, cj, rfl, -, -, -⟩ := htm.shape
      have HRA := Lib.hid hra
      have HTM := Lib.hid htm
      clear hra htm hjk
      go_wp2_with (first
    | (with_reducible refine wpList_load_any rfl 24 (.tmp 18) rfl b (o + j * 5) rfl (tmC kj.k kj.u kj.n kj.s (.slice aj kj.ks.length cj)) _ HRA.out Try.underlying24 rfl (tmC_info _ _ _ _ _) ?_)
    | ((with_reducible refine wpList_alloc_blk wr rfl 24 rfl (tmC 0 0 0 ⟨#[]⟩ (.slice none 0 0)) Try.zeroTm ?_); intro b1 hb hbel hsz; have HB1 := Lib.hid (show Below w.heap.size w b1 ∧ Blk b1 wr.heap.size 24 (tmC 0 0 0 ⟨#[]⟩ (.slice none 0 0)) ∧ Below wr.heap.size wr b1 from ⟨below_thn HZ.out hbel (Nat.le_refl _), hb, hbel⟩); clear hb hbel hsz)
    | ((with_reducible refine wpList_store_blk b1 rfl 24 (.tmp 4) (.tmp 19) rfl wr.heap.size 24 (tmC 0 0 0 ⟨#[]⟩ (.slice none 0 0)) (tmC kj.k kj.u kj.n kj.s (.slice aj kj.ks.length cj)) HB1.out.2.1 rfl rfl rfl (tmC_info _ _ _ _ _) (tmC_one _ _ _ _ _ _ _) ?_); intro b2 hb hc hs; have hbw : Below wr.heap.size wr b2 := below_ch HB1.out.2.2 hc (Nat.le_refl _) (fun k hk => by have e : k = wr.heap.size := hk; omega); have HB2 := Lib.hid (show Below w.heap.size w b2 ∧ Blk b2 wr.heap.size 24 (tmC kj.k kj.u kj.n kj.s (.slice aj kj.ks.length cj)) ∧ TmC (· < w.heap.size) b2 (tmC kj.k kj.u kj.n kj.s (.slice aj kj.ks.length cj)) kj from ⟨below_thn HZ.out hbw (Nat.le_refl _), hb, HTM.out.below hbw⟩); clear hb hc hs hbw)
    | (with_reducible refine wpList_load_any rfl 24 (.tmp 4) rfl wr.heap.size 0 rfl (tmC kj.k kj.u kj.n kj.s (.slice aj kj.ks.length cj)) _ (rangeW_blk HB2.out.2.1) Try.underlying24 rfl (tmC_info _ _ _ _ _) ?_))
      have hx := over_any kj _ _ b2 HB2.out.2.2
      obtain ⟨ov, hov⟩ : ∃ x, overB kj = x := ⟨_, rfl⟩
      rw [hov] at hx
      refine Calls.mono hx ?_
      clear hx hov
      rintro e' b3 ⟨rfl, hb⟩
      have HB3 := Lib.hid (show Below w.heap.size w b3 from below_thn HB2.out.1 hb (Nat.le_refl _))
      clear hb
      cases ov
      rotate_left
      · skip
        go_wp2_with fail
        go_ret
        exact ⟨rfl, HB3.out⟩
      go_wp2_with fail
      go_roundw
      case rel => exact ⟨j + 1, by go_num, by omega, HB3⟩
      case measure => simp [intOf]; omega
    · have hge : ¬ (j : Int) < (m : Int) := by omega
      clear hlt hj
      go_wp2_with fail
      have hx := list_any ts (.slice ao m c) _ wr (HSL.out.below HZ.out) (by rw [HM.out]; omega)
      rw [HT.out] at hx
      refine Calls.mono hx ?_
      clear hx
      rintro e' y3 ⟨ct', F', rfl, htm, hb⟩
      obtain ⟨at', ct, rfl, -, -, -⟩ := htm.shape
      have HY4 := Lib.hid (show Below w.heap.size w y3 ∧ (∃ Fq, TmC Fq y3 (tmC T.k T.u T.n T.s (.slice at' T.ks.length ct)) T) from ⟨below_thn HZ.out hb (Nat.le_refl _), ⟨_, htm⟩⟩)
      clear htm hb
      go_wp2_with (first
    | ((with_reducible refine wpList_alloc_blk y3 rfl 24 rfl (tmC 0 0 0 ⟨#[]⟩ (.slice none 0 0)) Try.zeroTm ?_); intro b5 hb hbel hsz; have HB5 := Lib.hid (show Below w.heap.size w b5 ∧ (∃ Fq, TmC Fq b5 (tmC T.k T.u T.n T.s (.slice at' T.ks.length ct)) T) ∧ Blk b5 y3.heap.size 24 (tmC 0 0 0 ⟨#[]⟩ (.slice none 0 0)) ∧ Below y3.heap.size y3 b5 from ⟨below_thn HY4.out.1 hbel (Nat.le_refl _), (let ⟨_, h⟩ := HY4.out.2; ⟨_, h.below hbel⟩), hb, hbel⟩); clear hb hbel hsz)
    | ((with_reducible refine wpList_store_blk b5 rfl 24 (.tmp 5) (.tmp 24) rfl y3.heap.size 24 (tmC 0 0 0 ⟨#[]⟩ (.slice none 0 0)) (tmC T.k T.u T.n T.s (.slice at' T.ks.length ct)) HB5.out.2.2.1 rfl rfl rfl (tmC_info _ _ _ _ _) (tmC_one _ _ _ _ _ _ _) ?_); intro b6 hb hc hs; have hbw : Below y3.heap.size y3 b6 := below_ch HB5.out.2.2.2 hc (Nat.le_refl _) (fun k hk => by have e : k = y3.heap.size := hk; omega); have HB6 := Lib.hid (show Below w.heap.size w b6 ∧ (∃ Fq, TmC Fq b6 (tmC T.k T.u T.n T.s (.slice at' T.ks.length ct)) T) ∧ Blk b6 y3.heap.size 24 (tmC T.k T.u T.n T.s (.slice at' T.ks.length ct)) from ⟨below_thn HY4.out.1 hbw (Nat.le_refl _), (let ⟨_, h⟩ := HY4.out.2; ⟨_, h.below hbw⟩), hb⟩); clear hb hc hs hbw)
    | (with_reducible refine wpList_load_any rfl 24 (.tmp 5) rfl y3.heap.size 0 rfl (tmC T.k T.u T.n T.s (.slice at' T.ks.length ct)) _ (rangeW_blk HB6.out.2.2) Try.underlying24 rfl (tmC_info _ _ _ _ _) ?_))
      obtain ⟨Fq, hq⟩ := HB6.out.2.1
      have hu := unlist_any T _ _ b6 hq
      clear hq
      by_cases hz : sizeT T = 0
      · rw [unlS_bad hz] at hu
        have HC := Lib.hid (checkN_b hz)
        clear hz
        refine Calls.mono hu ?_
        clear hu
        rintro e' b7 (⟨_, _, _, h, -⟩ | ⟨-, rfl, hb⟩)
        · cases h
        have HB7 := Lib.hid (show Below w.heap.size w b7 ∧ (∃ Fq, TmC Fq b7 (tmC T.k T.u T.n T.s (.slice at' T.ks.length ct)) T) ∧ Blk b7 y3.heap.size 24 (tmC T.k T.u T.n T.s (.slice at' T.ks.length ct)) from ⟨below_thn HB6.out.1 hb (Nat.le_refl _), (let ⟨_, h⟩ := HB6.out.2.1; ⟨_, h.below hb⟩), HB6.out.2.2.below hb HB6.out.2.2.lt⟩)
        clear hb
        go_wp2_with (first
    | (with_reducible refine wpList_load_any rfl 24 (.tmp 5) rfl y3.heap.size 0 rfl (tmC T.k T.u T.n T.s (.slice at' T.ks.length ct)) _ (rangeW_blk HB7.out.2.2) Try.underlying24 rfl (tmC_info _ _ _ _ _) ?_))
        obtain ⟨Fr, hr⟩ := HB7.out.2.1
        have hx := check_any T _ _ b7 hr
        rw [HC.out] at hx
        refine Calls.mono hx ?_
        clear hx
        rintro e' y5 ⟨rfl, hb⟩
        have HY6 := Lib.hid (show Below w.heap.size w y5 ∧ (∃ Fq, TmC Fq y5 (tmC T.k T.u T.n T.s (.slice at' T.ks.length ct)) T) ∧ Blk y5 y3.heap.size 24 (tmC T.k T.u T.n T.s (.slice at' T.ks.length ct)) from ⟨below_thn HB7.out.1 hb (Nat.le_refl _), (let ⟨_, h⟩ := HB7.out.2.1; ⟨_, h.below hb⟩), HB7.out.2.2.below hb HB7.out.2.2.lt⟩)
        clear hb
        go_wp2_with fail
        go_ret
        exact ⟨rfl, HY6.out.1⟩
      · have hs : unlS T = some ts := by rw [← HT.out]; exact unlS_list (by rw [HT.out]; exact hz)
        rw [hs] at hu
        have HC := Lib.hid (checkN_o hz)
        clear hz hs
        refine Calls.mono hu ?_
        clear hu
        rintro e' b7 (⟨ts', og, cg, h, rfl, hk, hb⟩ | ⟨h, -⟩)
        rotate_left
        · cases h
        obtain rfl : ts = ts' := by injection h
        rw [HM.out] at hk ⊢
        have HB7 := Lib.hid (show Below w.heap.size w b7 ∧ (∃ Fq, TmC Fq b7 (tmC T.k T.u T.n T.s (.slice at' T.ks.length ct)) T) ∧ Blk b7 y3.heap.size 24 (tmC T.k T.u T.n T.s (.slice at' T.ks.length ct)) ∧ (∃ B lo, KidJ B lo (.slice og m cg) ts b7) from ⟨below_thn HB6.out.1 hb (Nat.le_refl _), (let ⟨_, h⟩ := HB6.out.2.1; ⟨_, h.below hb⟩), HB6.out.2.2.below hb HB6.out.2.2.lt, ⟨_, _, hk⟩⟩)
        clear hk hb h
        go_wp2_with (first
    | (with_reducible refine wpList_load_any rfl 24 (.tmp 5) rfl y3.heap.size 0 rfl (tmC T.k T.u T.n T.s (.slice at' T.ks.length ct)) _ (rangeW_blk HB7.out.2.2.1) Try.underlying24 rfl (tmC_info _ _ _ _ _) ?_))
        obtain ⟨Fr, hr⟩ := HB7.out.2.1
        have hx := check_any T _ _ b7 hr
        rw [HC.out] at hx
        refine Calls.mono hx ?_
        clear hx
        rintro e' y7 ⟨rfl, hb⟩
        have HY8 := Lib.hid (show Below w.heap.size w y7 ∧ (∃ Fq, TmC Fq y7 (tmC T.k T.u T.n T.s (.slice at' T.ks.length ct)) T) ∧ Blk y7 y3.heap.size 24 (tmC T.k T.u T.n T.s (.slice at' T.ks.length ct)) ∧ (∃ B lo, KidJ B lo (.slice og m cg) ts y7) from ⟨below_thn HB7.out.1 hb (Nat.le_refl _), (let ⟨_, h⟩ := HB7.out.2.1; ⟨_, h.below hb⟩), HB7.out.2.2.1.below hb HB7.out.2.2.1.lt, (let ⟨_, _, h⟩ := HB7.out.2.2.2; ⟨_, _, h.below hb⟩)⟩)
        clear hb
        have hmm : ((m : Int) != (m : Int)) = false := by simp
        go_wp2_with fail
        have HLP := Lib.hid (show Below w.heap.size w y7 ∧ (∃ B lo, KidJ B lo (.slice og m cg) ts y7) from ⟨HY8.out.1, HY8.out.2.2.2⟩)
        clear HY8 HZ
        go_loopw [51] (fun i wr => ∃ j : Nat, i = .int .i64 j ∧ j ≤ m ∧ Hid (Below w.heap.size w wr ∧ (∃ B lo, KidJ B lo (.slice og m cg) ts wr))) (fun i _ => m - (intOf i).toNat)
        case atStart => exact ⟨0, rfl, Nat.zero_le _, HLP⟩
        case round =>
          clear HLP
          obtain ⟨j, rfl, hj, HZ⟩ := hrel
          by_cases hlt : j < m
          · have hjk : j < ts.length := by rw [HM.out]; exact hlt
            have hjz : (j : Int) < (m : Int) := by omega
            have hj0 : (0 : Int) ≤ (j : Int) := by omega
            obtain ⟨Bk, lo, hk⟩ := HZ.out.2
            obtain ⟨b, o, csj, rfl, -, -, hra, hta⟩ := (HSL.out.below HZ.out.1).get hjk
            obtain ⟨b', o', csk, rfl, -, -, hrb, htb⟩ := hk.slt.get hjk
            have HEQ := Lib.hid ((sameT_iff ts[j] ts[j]).2 rfl)
            generalize ts[j] = kj at hta htb HEQ
            obtain ⟨aj, cj, rfl, -, -, -⟩ := hta.shape
            obtain ⟨bj, dj, rfl, -, -, -⟩ := htb.shape
            have HAB := Lib.hid (show wr.rangeAt b' (o' + j * 5) (tmC kj.k kj.u kj.n kj.s (.slice bj kj.ks.length dj)) ∧ wr.rangeAt b (o + j * 5) (tmC kj.k kj.u kj.n kj.s (.slice aj kj.ks.length cj)) ∧ TmC _ wr (tmC kj.k kj.u kj.n kj.s (.slice aj kj.ks.length cj)) kj ∧ TmC _ wr (tmC kj.k kj.u kj.n kj.s (.slice bj kj.ks.length dj)) kj ∧ Below w.heap.size w wr ∧ ∃ B lo, KidJ B lo (.slice (some ⟨b', o', none⟩) m cg) ts wr from ⟨hrb, hra, hta, htb, HZ.out.1, HZ.out.2⟩)
            clear hra hrb hta htb hjk hk
            go_wp2_with fail
            refine wp_region_takes (fun w' => w'.rangeAt b' (o' + j * 5) (tmC kj.k kj.u kj.n kj.s (.slice bj kj.ks.length dj)) ∧ w'.rangeAt b (o + j * 5) (tmC kj.k kj.u kj.n kj.s (.slice aj kj.ks.length cj))) [0, 1, 2, 4, 5, 6, 3, 7] 2 (by kernel_rfl) rfl (by kernel_rfl) (by kernel_rfl) ⟨HAB.out.1, HAB.out.2.1⟩ ?_
            iterate 8 (refine' HeldL.run ?_ ?_ ?_ ?_; rotate_left 2; (simp only [List.getElem?_toArray, List.getElem?_cons_zero, List.getElem?_cons_succ]; rfl); rfl; (rintro w' ⟨k0, k1⟩; first | exact exec_load_mid rfl rfl k0 Try.underlying24 rfl (tmC_info _ _ _ _ _) | exact exec_load_mid rfl rfl k1 Try.underlying24 rfl (tmC_info _ _ _ _ _) | (go_simp; with_reducible rfl)); simp only [Act.put, List.setIfInBounds_toArray, List.set_cons_zero, List.set_cons_succ])
            have sm := (Sm.refl wr).drew
            have HV10 := Lib.hid (show wr.drew.rangeAt b' (o' + j * 5) (tmC kj.k kj.u kj.n kj.s (.slice bj kj.ks.length dj)) ∧ wr.drew.rangeAt b (o + j * 5) (tmC kj.k kj.u kj.n kj.s (.slice aj kj.ks.length cj)) ∧ TmC _ wr.drew (tmC kj.k kj.u kj.n kj.s (.slice aj kj.ks.length cj)) kj ∧ TmC _ wr.drew (tmC kj.k kj.u kj.n kj.s (.slice bj kj.ks.length dj)) kj ∧ Below w.heap.size w wr.drew ∧ (∃ B lo, KidJ B lo (.slice (some ⟨b', o', none⟩) m cg) ts wr.drew) from ⟨rangeW_below HAB.out.1 (sm.below _), rangeW_below HAB.out.2.1 (sm.below _), HAB.out.2.2.1.below (sm.below _), HAB.out.2.2.2.1.below (sm.below _), below_thn HAB.out.2.2.2.2.1 (sm.below _) (Nat.le_refl _), (let ⟨_, _, h⟩ := HAB.out.2.2.2.2.2; ⟨_, _, h.below (sm.below _)⟩)⟩)
            clear sm
            generalize wr.drew = v9 at HV10 ⊢
            refine' wpAnyH_one 8 (by kernel_rfl) ?_ ?_; rotate_left; (simp only [List.getElem?_toArray, List.getElem?_cons_zero, List.getElem?_cons_succ]; rfl)
            try simp only [Act.put]
            go_wp2_with fail
            have hx := same_any5 kj kj _ _ _ _ v9 HV10.out.2.2.2.1 HV10.out.2.2.1
            rw [HEQ.out] at hx
            refine Calls.mono hx ?_
            clear hx
            rintro e' y11 ⟨rfl, hb⟩
            have HY12 := Lib.hid (show y11.rangeAt b' (o' + j * 5) (tmC kj.k kj.u kj.n kj.s (.slice bj kj.ks.length dj)) ∧ y11.rangeAt b (o + j * 5) (tmC kj.k kj.u kj.n kj.s (.slice aj kj.ks.length cj)) ∧ TmC _ y11 (tmC kj.k kj.u kj.n kj.s (.slice aj kj.ks.length cj)) kj ∧ TmC _ y11 (tmC kj.k kj.u kj.n kj.s (.slice bj kj.ks.length dj)) kj ∧ Below w.heap.size w y11 ∧ (∃ B lo, KidJ B lo (.slice (some ⟨b', o', none⟩) m cg) ts y11) from ⟨rangeW_below HV10.out.1 hb, rangeW_below HV10.out.2.1 hb, HV10.out.2.2.1.below hb, HV10.out.2.2.2.1.below hb, below_thn HV10.out.2.2.2.2.1 hb (Nat.le_refl _), (let ⟨_, _, h⟩ := HV10.out.2.2.2.2.2; ⟨_, _, h.below hb⟩)⟩)
            clear hb
            go_wp2_with fail
            refine QK.normal ⟨⟨HY12.out.1, HY12.out.2.1⟩, ?_⟩
            refine' wpAnyH_one 9 (by kernel_rfl) ?_ ?_; rotate_left; (simp only [List.getElem?_toArray, List.getElem?_cons_zero, List.getElem?_cons_succ]; rfl)
            try simp only [Act.put]
            go_wp2_with fail
            refine QK.normal ⟨⟨HY12.out.1, HY12.out.2.1⟩, ?_⟩
            refine wpAnyH_done (by kernel_rfl) ?_ _
            refine NoPanic.normal ?_
            go_wp2_with fail
            go_roundw
            case rel => exact ⟨j + 1, by go_num, by omega, Lib.hid ⟨HY12.out.2.2.2.2.1, HY12.out.2.2.2.2.2⟩⟩
            case measure => simp [intOf]; omega
          · have hge : ¬ (j : Int) < (m : Int) := by omega
            clear hlt hj
            go_wp2_with fail
            go_ret
            exact ⟨rfl, HZ.out.1⟩


end Go.Proofs.Ytfenikoajadiaaa
