/-
  Layer 5: the reference's List, SameAll (of like lists), Unlist, walked. Conditions: none.
-/
import Derived.Test.YtfenikoajadiaaaTmMa
import Derived.Test.YtfenikoajadiaaaTmN
namespace Go.Proofs.Ytfenikoajadiaaa
open Go Go.RowKit
set_option linter.unusedSimpArgs false
set_option linter.unusedVariables false


theorem listT_drop {ts : List Tm} {q : Nat} (h : q < ts.length) : listT (ts.drop q) = pairT ts[q] (listT (ts.drop (q + 1))) := by rw [List.drop_eq_getElem_cons h]; rfl
set_option maxRecDepth 100000 in
set_option maxHeartbeats 8000000 in
theorem rlist_any (ts : List Tm) (v : Value) (F : Nat → Prop) (w : World) (h : SlT F w v ts) (hn : ts.length ≤ 1000) :
    Calls Try.prog 37 #[v] w (fun e w' => ∃ cs F', e = .returned (.agg cs.toArray) ∧ TmC F' w' cs (listT ts) ∧ Below w.heap.size w w') := by
  obtain ⟨ao, c, rfl, -, -, -⟩ := id h
  obtain ⟨m, hm⟩ : ∃ m, ts.length = m := ⟨_, rfl⟩
  have HM := Lib.hid hm
  rw [hm] at h hn ⊢
  have HS := Lib.hid h.old
  have H0 := Lib.hid (Below.refl w.heap.size w)
  clear h hm
  go_enter Try.func37, Try.ntmps37
  go_wp2_with (with_reducible refine wpList_alloc_blk w rfl 24 rfl (tmC 0 0 0 ⟨#[]⟩ (.slice none 0 0)) Try.zeroTm ?_; intro w1 hb hbel hsz; have HB1 := Lib.hid (And.intro hb (And.intro hbel hsz)); clear hb hbel hsz)
  refine (rtext_any ⟨#[]⟩ w1).mono ?_
  rintro e w2 ⟨rfl, hb2⟩
  have HB2 := Lib.hid (show Blk w2 w.heap.size 24 (tmC 0 0 0 ⟨#[]⟩ (.slice none 0 0)) ∧ Below w.heap.size w w2 ∧ w.heap.size < w2.heap.size from ⟨HB1.out.1.below hb2 HB1.out.1.lt, below_thn HB1.out.2.1 hb2 (Nat.le_refl _), by have := HB1.out.2.2; have := hb2.size; omega⟩)
  clear hb2 HB1
  go_wp2_with (first
    | (with_reducible refine wpList_alloc_blk w2 rfl 24 rfl (tmC 0 0 0 ⟨#[]⟩ (.slice none 0 0)) Try.zeroTm ?_; intro w3 hb hbel hsz; have HB3 := Lib.hid (show Blk w3 w2.heap.size 24 (tmC 0 0 0 ⟨#[]⟩ (.slice none 0 0)) ∧ Blk w3 w.heap.size 24 (tmC 0 0 0 ⟨#[]⟩ (.slice none 0 0)) ∧ Below w.heap.size w w3 ∧ w2.heap.size < w3.heap.size from ⟨hb, HB2.out.1.below hbel HB2.out.1.lt, below_thn HB2.out.2.1 hbel (Nat.le_refl _), hb.lt⟩); clear hb hbel hsz)
    | ((with_reducible refine wpList_store_blk w3 rfl 24 (.tmp 3) (.tmp 5) rfl w2.heap.size 24 (tmC 0 0 0 ⟨#[]⟩ (.slice none 0 0)) (tmC 1 0 0 ⟨#[]⟩ (.slice none 0 0)) HB3.out.1 rfl rfl rfl (tmC_info _ _ _ _ _) (tmC_one _ _ _ _ _ _ _) ?_); intro w4 hb hc hs; have HB4 := Lib.hid (show Blk w4 w2.heap.size 24 (tmC 1 0 0 ⟨#[]⟩ (.slice none 0 0)) ∧ Blk w4 w.heap.size 24 (tmC 0 0 0 ⟨#[]⟩ (.slice none 0 0)) ∧ Below w.heap.size w w4 ∧ w4.heap.size = w3.heap.size from ⟨hb, HB3.out.2.1.keep hc (fun e => by have e : w.heap.size = w2.heap.size := e; have := HB2.out; omega), below_ch HB3.out.2.2.1 hc (Nat.le_refl _) (fun k hk => by have e : k = w2.heap.size := hk; have := HB2.out; omega), hs⟩); clear hb hc hs))
  obtain ⟨lb, hlb⟩ : ∃ lb, w2.heap.size = lb := ⟨_, rfl⟩
  have HP := Lib.hid (show ∃ cs, Blk w4 lb 24 cs ∧ TmC (fun k => k ≠ lb ∧ k ≠ w.heap.size) w4 cs textE ∧ Blk w4 w.heap.size 24 (tmC 0 0 0 ⟨#[]⟩ (.slice none 0 0)) ∧ Below w.heap.size w w4 from ⟨_, by rw [← hlb]; exact HB4.out.1, TmC_iff.2 ⟨_, rfl, SlT.nil _ _⟩, HB4.out.2.1, HB4.out.2.2.1⟩)
  have HG := Lib.hid (show w.heap.size < lb from by rw [← hlb]; exact HB2.out.2.2)
  rw [hlb]
  clear hlb HB2 HB3 HB4
  go_loopw [4] (fun i wr => ∃ (r : Nat) (x : Int), r ≤ m ∧ i = .int .i64 x ∧ x + 1 = (r : Int) ∧ Hid (∃ cs, Blk wr lb 24 cs ∧ TmC (fun k => k ≠ lb ∧ k ≠ w.heap.size) wr cs (listT (ts.drop r)) ∧ Blk wr w.heap.size 24 (tmC 0 0 0 ⟨#[]⟩ (.slice none 0 0)) ∧ Below w.heap.size w wr)) (fun i _ => (intOf i + 1).toNat)
  case atStart => exact ⟨m, (m : Int) - 1, Nat.le_refl _, by go_num, by omega, by rw [List.drop_of_length_le (by rw [HM.out]; exact Nat.le_refl _)]; exact HP⟩
  case round =>
    clear HP
    obtain ⟨r, x, hr, rfl, hx, HZ⟩ := hrel
    obtain ⟨ds, hbl, htd, hrb, hbw⟩ := HZ.out
    obtain ⟨od, cd, hcd, -, -, -⟩ := htd.shape
    cases r with
    | zero =>
      have hx0 : ¬ (0 : Int) ≤ x := by omega
      rw [List.drop_zero] at htd hcd
      have HW := Lib.hid (show Blk wr lb 24 ds ∧ TmC (fun k => k ≠ lb ∧ k ≠ w.heap.size) wr ds (listT ts) ∧ Blk wr w.heap.size 24 (tmC 0 0 0 ⟨#[]⟩ (.slice none 0 0)) ∧ Below w.heap.size w wr from ⟨hbl, htd, hrb, hbw⟩)
      rw [hcd] at HW
      clear hbl htd hrb hbw hcd HZ
      generalize (listT ts).ks.length = md at HW ⊢
      generalize (listT ts).k = kd at HW ⊢
      generalize (listT ts).u = ud at HW ⊢
      generalize (listT ts).n = nd at HW ⊢
      generalize (listT ts).s = sd at HW ⊢
      go_wp2_with (first
        | (with_reducible refine wpList_load_any rfl 24 (.tmp 3) rfl lb 0 rfl (tmC kd ud nd sd (.slice od md cd)) _ (rangeW_blk HW.out.1) Try.underlying24 rfl (tmC_info _ _ _ _ _) ?_)
        | ((with_reducible refine wpList_store_blk wr rfl 24 (.tmp 2) (.tmp 19) rfl w.heap.size 24 (tmC 0 0 0 ⟨#[]⟩ (.slice none 0 0)) (tmC kd ud nd sd (.slice od md cd)) HW.out.2.2.1 rfl rfl rfl (tmC_info _ _ _ _ _) (tmC_one _ _ _ _ _ _ _) ?_); intro w9 hb hc hs; have H9 := Lib.hid (And.intro hb hc); clear hb hc hs))
      refine bodyPost_ret (results_blk Try.results37 _ _ w.heap.size _ _ rfl H9.out.1 _ Try.underlying24 rfl (tmC_info _ _ _ _ _)) rfl ?_
      exact ⟨_, rfl, ⟨_, HW.out.2.1.keep H9.out.2 (fun k hk e => hk.2 e)⟩, below_ch HW.out.2.2.2 H9.out.2 (Nat.le_refl _) (fun k hk => by have e : k = w.heap.size := hk; omega)⟩
    | succ q =>
      obtain rfl : x = (q : Int) := by omega
      have hql : q < ts.length := by rw [HM.out]; omega
      obtain ⟨b, o, csj, rfl, hbb, -, hra, hty⟩ := (HS.out.below hbw).get hql
      have HLD := Lib.hid (listT_drop hql)
      replace hty : TmC (fun k => k ≠ lb ∧ k ≠ w.heap.size) wr csj ts[q] := hty.mono fun k hk => by have := HG.out; have hk : k < w.heap.size := hk; exact ⟨by omega, by omega⟩
      generalize ts[q] = ty at hty HLD
      generalize listT (ts.drop (q + 1)) = td at htd hcd HLD
      obtain ⟨oy, cy, hcy, -, -, -⟩ := hty.shape
      have HW := Lib.hid (show Blk wr lb 24 ds ∧ TmC (fun k => k ≠ lb ∧ k ≠ w.heap.size) wr ds td ∧ Blk wr w.heap.size 24 (tmC 0 0 0 ⟨#[]⟩ (.slice none 0 0)) ∧ Below w.heap.size w wr ∧ wr.rangeAt b (o + q * 5) csj ∧ TmC (fun k => k ≠ lb ∧ k ≠ w.heap.size) wr csj ty from ⟨hbl, htd, hrb, hbw, hra, hty⟩)
      rw [hcd, hcy] at HW
      have hq0 : (0 : Int) ≤ (q : Int) := by omega
      have hq1 : (q : Int) < (m : Int) := by omega
      clear hbl htd hrb hbw hcd HZ hra hty hcy hql
      generalize ty.ks.length = my at HW ⊢
      generalize ty.k = ky at HW ⊢
      generalize ty.u = uy at HW ⊢
      generalize ty.n = ny at HW ⊢
      generalize ty.s = sy at HW ⊢
      generalize td.ks.length = md at HW ⊢
      generalize td.k = kd at HW ⊢
      generalize td.u = ud at HW ⊢
      generalize td.n = nd at HW ⊢
      generalize td.s = sd at HW ⊢
      go_wp2_with fail
      refine wp_region_marked (fun w' => w'.rangeAt b (o + q * 5) (tmC ky uy ny sy (.slice oy my cy)) ∧ w'.rangeAt lb 0 (tmC kd ud nd sd (.slice od md cd))) 6 [0, 1, 2, 3, 4] 2 (by kernel_rfl) rfl (by kernel_rfl) (by kernel_rfl) ⟨HW.out.2.2.2.2.1, rangeW_blk HW.out.1⟩ ?_
      iterate 5 (refine' HeldL.run ?_ ?_ ?_ ?_; rotate_left 2; (simp only [List.getElem?_toArray, List.getElem?_cons_zero, List.getElem?_cons_succ]; rfl); rfl; (rintro w' ⟨k0, k1⟩; first | exact exec_load_mid rfl rfl k0 Try.underlying24 rfl (tmC_info _ _ _ _ _) | exact exec_load_mid rfl rfl k1 Try.underlying24 rfl (tmC_info _ _ _ _ _) | (go_simp; with_reducible rfl)); simp only [Act.put, List.setIfInBounds_toArray, List.set_cons_zero, List.set_cons_succ])
      have sm := (Sm.refl wr).drew
      have HV2 := Lib.hid (show Blk wr.drew lb 24 (tmC kd ud nd sd (.slice od md cd)) ∧ TmC (fun k => k ≠ lb ∧ k ≠ w.heap.size) wr.drew (tmC kd ud nd sd (.slice od md cd)) td ∧ Blk wr.drew w.heap.size 24 (tmC 0 0 0 ⟨#[]⟩ (.slice none 0 0)) ∧ Below w.heap.size w wr.drew ∧ wr.drew.rangeAt b (o + q * 5) (tmC ky uy ny sy (.slice oy my cy)) ∧ TmC (fun k => k ≠ lb ∧ k ≠ w.heap.size) wr.drew (tmC ky uy ny sy (.slice oy my cy)) ty from ⟨HW.out.1.below (sm.below _) HW.out.1.lt, HW.out.2.1.below (sm.below _), HW.out.2.2.1.below (sm.below _) HW.out.2.2.1.lt, below_thn HW.out.2.2.2.1 (sm.below _) (Nat.le_refl _), rangeW_below HW.out.2.2.2.2.1 (sm.below _), HW.out.2.2.2.2.2.below (sm.below _)⟩)
      clear sm
      generalize wr.drew = v1 at HV2 ⊢
      refine' wpAnyM_one 5 (by kernel_rfl) ?_ ?_; rotate_left; (simp only [List.getElem?_toArray, List.getElem?_cons_zero, List.getElem?_cons_succ]; rfl)
      try simp only [Act.put]
      go_wp2_with fail
      refine (rpair_any ky uy ny sy oy my cy kd ud nd sd od md cd v1).mono ?_
      rintro e y3 ⟨g, rfl, hbb2, hbw, hb5⟩
      have HY4 := Lib.hid (show Blk y3 lb 24 (tmC kd ud nd sd (.slice od md cd)) ∧ TmC (fun k => k ≠ lb ∧ k ≠ w.heap.size) y3 (tmC kd ud nd sd (.slice od md cd)) td ∧ Blk y3 w.heap.size 24 (tmC 0 0 0 ⟨#[]⟩ (.slice none 0 0)) ∧ Below w.heap.size w y3 ∧ y3.rangeAt b (o + q * 5) (tmC ky uy ny sy (.slice oy my cy)) ∧ TmC (fun k => k ≠ lb ∧ k ≠ w.heap.size) y3 (tmC ky uy ny sy (.slice oy my cy)) ty ∧ TmC (fun k => k ≠ lb ∧ k ≠ w.heap.size) y3 (tmC 4 0 0 ⟨#[]⟩ (.slice (some ⟨g, 0, none⟩) 2 2)) (pairT ty td) from ⟨HV2.out.1.below hb5 HV2.out.1.lt, HV2.out.2.1.below hb5, HV2.out.2.2.1.below hb5 HV2.out.2.2.1.lt, below_thn HV2.out.2.2.2.1 hb5 (Nat.le_refl _), rangeW_below HV2.out.2.2.2.2.1 hb5, HV2.out.2.2.2.2.2.below hb5, TwoP.tm (w := v1) hbb2 (by have := HV2.out.1.lt; have := HG.out; exact ⟨by omega, by omega⟩) (HV2.out.2.2.2.2.2.below hb5) (HV2.out.2.1.below hb5)⟩)
      clear hbb2 hbw hb5
      go_wp2_with fail
      refine QK.normal ⟨fun _ => ⟨HY4.out.2.2.2.2.1, rangeW_blk HY4.out.1⟩, ?_⟩
      refine' wpAnyM_one 6 (by kernel_rfl) ?_ ?_; rotate_left; (simp only [List.getElem?_toArray, List.getElem?_cons_zero, List.getElem?_cons_succ]; rfl)
      try simp only [Act.put]
      refine wpList_store_blk y3 rfl 24 (.tmp 3) (.tmp 18) rfl lb 24 (tmC kd ud nd sd (.slice od md cd)) (tmC 4 0 0 ⟨#[]⟩ (.slice (some ⟨g, 0, none⟩) 2 2)) HY4.out.1 rfl rfl rfl (tmC_info _ _ _ _ _) (tmC_one _ _ _ _ _ _ _) ?_
      intro w6 hb hc hs
      have H6 := Lib.hid (show Blk w6 lb 24 (tmC 4 0 0 ⟨#[]⟩ (.slice (some ⟨g, 0, none⟩) 2 2)) ∧ TmC (fun k => k ≠ lb ∧ k ≠ w.heap.size) w6 (tmC 4 0 0 ⟨#[]⟩ (.slice (some ⟨g, 0, none⟩) 2 2)) (pairT ty td) ∧ Blk w6 w.heap.size 24 (tmC 0 0 0 ⟨#[]⟩ (.slice none 0 0)) ∧ Below w.heap.size w w6 from ⟨hb, HY4.out.2.2.2.2.2.2.keep hc (fun k hk e => hk.1 e), HY4.out.2.2.1.keep hc (fun e => by have e : w.heap.size = lb := e; have := HG.out; omega), below_ch HY4.out.2.2.2.1 hc (Nat.le_refl _) (fun k hk => by have e : k = lb := hk; have := HG.out; omega)⟩)
      clear hb hc hs
      try simp only [Act.put]
      try go_wp2_with fail
      refine QK.normal ⟨fun h => absurd h (by decide), ?_⟩
      refine wpAnyM_done (by kernel_rfl) ?_ _
      refine NoPanic.normal ?_
      go_wp2_with fail
      go_roundw
      case rel => exact ⟨q, (q : Int) - 1, by omega, by go_num, by omega, Lib.hid ⟨_, H6.out.1, by rw [HLD.out]; exact H6.out.2.1, H6.out.2.2.1, H6.out.2.2.2⟩⟩
      case measure => simp [intOf] <;> omega


set_option maxRecDepth 100000 in
set_option maxHeartbeats 8000000 in
theorem rsameall_any (ts : List Tm) (va vb : Value) (Fa Fb : Nat → Prop) (w : World) (ha : SlT Fa w va ts) (hb : SlT Fb w vb ts) (hn : ts.length ≤ 100000) :
    Calls Try.prog 39 #[va, vb] w (fun e w' => e = .returned (.bool true) ∧ Below w.heap.size w w') := by
  obtain ⟨ao, c, rfl, -, -, -⟩ := id ha
  obtain ⟨bo, d, rfl, -, -, -⟩ := id hb
  obtain ⟨m, hm⟩ : ∃ m, ts.length = m := ⟨_, rfl⟩
  have HM := Lib.hid hm
  rw [hm] at ha hb hn ⊢
  have HA := Lib.hid ha.old
  have HB := Lib.hid hb.old
  have H0 := Lib.hid (Below.refl w.heap.size w)
  have hmm : ((m : Int) != (m : Int)) = false := by simp
  clear ha hb hm
  go_enter Try.func39, Try.ntmps39
  go_wp2_with fail
  go_loopw [5] (fun i wr => ∃ j : Nat, i = .int .i64 j ∧ j ≤ m ∧ Hid (Below w.heap.size w wr)) (fun i _ => m - (intOf i).toNat)
  case atStart => exact ⟨0, rfl, Nat.zero_le _, H0⟩
  case round =>
    clear H0
    obtain ⟨j, rfl, hj, HZ⟩ := hrel
    by_cases hlt : j < m
    · have hjk : j < ts.length := by rw [HM.out]; exact hlt
      have hjz : (j : Int) < (m : Int) := by omega
      have hj0 : (0 : Int) ≤ (j : Int) := by omega
      obtain ⟨b, o, csj, rfl, -, -, hra, hta⟩ := (HA.out.below HZ.out).get hjk
      obtain ⟨b', o', csk, rfl, -, -, hrb, htb⟩ := (HB.out.below HZ.out).get hjk
      have HEQ := Lib.hid ((sameT_iff ts[j] ts[j]).2 rfl)
      generalize ts[j] = kj at hta htb HEQ
      obtain ⟨aj, cj, rfl, -, -, -⟩ := hta.shape
      obtain ⟨bj, dj, rfl, -, -, -⟩ := htb.shape
      have HAB := Lib.hid (show wr.rangeAt b (o + j * 5) (tmC kj.k kj.u kj.n kj.s (.slice aj kj.ks.length cj)) ∧ wr.rangeAt b' (o' + j * 5) (tmC kj.k kj.u kj.n kj.s (.slice bj kj.ks.length dj)) ∧ TmC _ wr (tmC kj.k kj.u kj.n kj.s (.slice aj kj.ks.length cj)) kj ∧ TmC _ wr (tmC kj.k kj.u kj.n kj.s (.slice bj kj.ks.length dj)) kj ∧ Below w.heap.size w wr from ⟨hra, hrb, hta, htb, HZ.out⟩)
      clear hra hrb hta htb hjk
      go_wp2_with fail
      refine wp_region_takes (fun w' => w'.rangeAt b (o + j * 5) (tmC kj.k kj.u kj.n kj.s (.slice aj kj.ks.length cj)) ∧ w'.rangeAt b' (o' + j * 5) (tmC kj.k kj.u kj.n kj.s (.slice bj kj.ks.length dj))) [0, 1, 2, 4, 5, 6, 3, 7] 2 (by kernel_rfl) rfl (by kernel_rfl) (by kernel_rfl) ⟨HAB.out.1, HAB.out.2.1⟩ ?_
      iterate 8 (refine' HeldL.run ?_ ?_ ?_ ?_; rotate_left 2; (simp only [List.getElem?_toArray, List.getElem?_cons_zero, List.getElem?_cons_succ]; rfl); rfl; (rintro w' ⟨k0, k1⟩; first | exact exec_load_mid rfl rfl k0 Try.underlying24 rfl (tmC_info _ _ _ _ _) | exact exec_load_mid rfl rfl k1 Try.underlying24 rfl (tmC_info _ _ _ _ _) | (go_simp; with_reducible rfl)); simp only [Act.put, List.setIfInBounds_toArray, List.set_cons_zero, List.set_cons_succ])
      have sm := (Sm.refl wr).drew
      have HV6 := Lib.hid (show wr.drew.rangeAt b (o + j * 5) (tmC kj.k kj.u kj.n kj.s (.slice aj kj.ks.length cj)) ∧ wr.drew.rangeAt b' (o' + j * 5) (tmC kj.k kj.u kj.n kj.s (.slice bj kj.ks.length dj)) ∧ TmC _ wr.drew (tmC kj.k kj.u kj.n kj.s (.slice aj kj.ks.length cj)) kj ∧ TmC _ wr.drew (tmC kj.k kj.u kj.n kj.s (.slice bj kj.ks.length dj)) kj ∧ Below w.heap.size w wr.drew from ⟨rangeW_below HAB.out.1 (sm.below _), rangeW_below HAB.out.2.1 (sm.below _), HAB.out.2.2.1.below (sm.below _), HAB.out.2.2.2.1.below (sm.below _), below_thn HAB.out.2.2.2.2 (sm.below _) (Nat.le_refl _)⟩)
      clear sm
      generalize wr.drew = v5 at HV6 ⊢
      refine' wpAnyH_one 8 (by kernel_rfl) ?_ ?_; rotate_left; (simp only [List.getElem?_toArray, List.getElem?_cons_zero, List.getElem?_cons_succ]; rfl)
      try simp only [Act.put]
      go_wp2_with fail
      have hx := rsame_any5 kj kj _ _ _ _ v5 HV6.out.2.2.1 HV6.out.2.2.2.1
      rw [HEQ.out] at hx
      refine Calls.mono hx ?_
      clear hx
      rintro e' y7 ⟨rfl, hb⟩
      have HY8 := Lib.hid (show y7.rangeAt b (o + j * 5) (tmC kj.k kj.u kj.n kj.s (.slice aj kj.ks.length cj)) ∧ y7.rangeAt b' (o' + j * 5) (tmC kj.k kj.u kj.n kj.s (.slice bj kj.ks.length dj)) ∧ TmC _ y7 (tmC kj.k kj.u kj.n kj.s (.slice aj kj.ks.length cj)) kj ∧ TmC _ y7 (tmC kj.k kj.u kj.n kj.s (.slice bj kj.ks.length dj)) kj ∧ Below w.heap.size w y7 from ⟨rangeW_below HV6.out.1 hb, rangeW_below HV6.out.2.1 hb, HV6.out.2.2.1.below hb, HV6.out.2.2.2.1.below hb, below_thn HV6.out.2.2.2.2 hb (Nat.le_refl _)⟩)
      clear hb
      go_wp2_with fail
      refine QK.normal ⟨⟨HY8.out.1, HY8.out.2.1⟩, ?_⟩
      refine' wpAnyH_one 9 (by kernel_rfl) ?_ ?_; rotate_left; (simp only [List.getElem?_toArray, List.getElem?_cons_zero, List.getElem?_cons_succ]; rfl)
      try simp only [Act.put]
      go_wp2_with fail
      refine QK.normal ⟨⟨HY8.out.1, HY8.out.2.1⟩, ?_⟩
      refine wpAnyH_done (by kernel_rfl) ?_ _
      refine NoPanic.normal ?_
      go_wp2_with fail
      go_roundw
      case rel => exact ⟨j + 1, by go_num, by omega, Lib.hid HY8.out.2.2.2.2⟩
      case measure => simp [intOf]; omega
    · have hge : ¬ (j : Int) < (m : Int) := by omega
      clear hlt hj
      go_wp2_with fail
      go_ret
      exact ⟨rfl, HZ.out⟩


theorem KidJ.get {B lo : Nat} {ao : Option Addr} {n c : Nat} {ts : List Tm} {W : World} (h : KidJ B lo (.slice ao n c) ts W) {j : Nat} (hj : j < ts.length) : ∃ b o cs, ao = some ⟨b, o, none⟩ ∧ W.rangeAt b (o + j * 5) cs ∧ TmC (· < lo) W cs ts[j] := by
  obtain ⟨css, h1, h2, h3⟩ := h
  have h5 := KidJ.len5 h2 h3
  obtain ⟨hl, ⟨e, hn⟩ | ⟨g, cap, cur, e, hbg, hg, hnc, hcm, hcs, htake⟩⟩ := id h1
  · omega
  · simp only [Value.slice.injEq] at e
    obtain ⟨rfl, rfl, rfl⟩ := e
    have hj' : j < css.length := by omega
    refine ⟨g, 0, css[j], rfl, fun i u hu => ?_, h3 j hj' hj⟩
    have hi : i < 5 := by have := (List.getElem?_eq_some_iff.1 hu).1; rw [h5 _ (List.getElem_mem hj')] at this; exact this
    have hc := h1.cells (g := g) rfl (j * 5 + i) u (by rw [flat_get h5 hj' hi]; exact hu)
    rw [Addr.add_lit, Nat.zero_add] at hc
    rw [Nat.zero_add]; exact hc
def UnlQ (r : Option (List Tm)) (lo : Nat) (w : World) (e : Ending) (w' : World) : Prop :=
  (∃ ts ao c, r = some ts ∧ e = .returned (.tuple #[.slice ao ts.length c, .bool true]) ∧ KidJ w.heap.size lo (.slice ao ts.length c) ts w' ∧ Below w.heap.size w w') ∨
  (r = none ∧ e = .returned (.tuple #[.slice none 0 0, .bool false]) ∧ Below w.heap.size w w')
theorem unl_len : ∀ (t : Tm) (ts : List Tm), unl t = some ts → ts.length < nodesT t := by
  refine Tm.ind fun k u n s ks ih ts h => ?_
  rw [unl] at h
  by_cases hk : k = 4
  · rw [if_pos hk] at h
    subst hk
    match ks, ih, h with
    | [a, b], ih, h =>
      rw [unlL, unlL, unlL] at h
      have h : (unl b).map (a :: ·) = some ts := h
      rw [Option.map_eq_some_iff] at h
      obtain ⟨r, hr, rfl⟩ := h
      have := ih b (by simp) r hr
      rw [nodes_pair]; simp; omega
    | [], _, h => cases h
    | [_], _, h => rw [unlL, unlL] at h; cases h
    | _ :: _ :: _ :: _, _, h => rw [unlL, unlL, unlL] at h; cases h
  · rw [if_neg hk] at h
    split at h
    · cases h; rw [nodesT]; simp; omega
    · cases h

set_option maxRecDepth 100000 in
set_option maxHeartbeats 8000000 in
theorem runlist_any : ∀ (t : Tm) (cs : List Value) (lo : Nat) (w : World), okT t = true → nodesT t ≤ 1200 → lo ≤ w.heap.size → TmC (· < lo) w cs t → Calls Try.prog 38 #[.agg cs.toArray] w (UnlQ (unl t) lo w) := by
  refine Tm.ind fun k u n s ks ih cs lo w hok hnd hlo ht => ?_
  obtain ⟨ao, c, rfl, -, -, hsl⟩ := ht.shape
  simp only [Tm.k, Tm.u, Tm.n, Tm.s, Tm.ks] at hsl ht ⊢
  obtain ⟨m, hm⟩ : ∃ m, ks.length = m := ⟨_, rfl⟩
  have HM := Lib.hid hm
  rw [hm] at hsl ht ⊢
  have H0 := Lib.hid (Below.refl w.heap.size w)
  by_cases hk4 : k = 4
  rotate_left
  · have e4 : (k != 4) = true := by simpa using hk4
    by_cases hk1 : k = 1
    · have e1 : (k == 1) = true := by simpa using hk1
      by_cases hs0 : s.size = 0
      · have es : s.toList.isEmpty = true := isEmpty_size.2 hs0
        have HU := Lib.hid (show unl (.mk k u n s ks) = some [] from by rw [unl, if_neg hk4, if_pos ⟨hk1, hs0⟩])
        obtain ⟨R, hR⟩ : ∃ R, unl (.mk k u n s ks) = R := ⟨_, rfl⟩
        rw [hR]
        rw [hR] at HU
        clear hR ht hsl ih hok hnd hm hk4 hk1 hs0
        go_enter Try.func38, Try.ntmps38
        go_wp2_with (first
    | ((with_reducible refine wpList_box_blk w rfl 24 (.tmp 0) rfl (tmC k u n s (.slice ao m c)) rfl ?_); intro a1 hb hbel hsz; have HA1 := Lib.hid (show Below w.heap.size w a1 ∧ Blk a1 w.heap.size 24 (tmC k u n s (.slice ao m c)) from ⟨below_thn H0.out hbel (Nat.le_refl _), hb⟩); have c0 := HA1.out.2.cell 0; have c3 := HA1.out.2.cell 3; have c4 := HA1.out.2.cell 4; simp only [tmC, List.getElem?_cons_zero, List.getElem?_cons_succ] at c0 c3 c4; clear hb hbel hsz))
        refine bodyPost_ret (results_tmp2 Try.results38 _ _ _) rfl ?_
        exact .inl ⟨[], none, 0, HU.out, rfl, KidJ.nil _ _ _, HA1.out.1⟩

      · have es : s.toList.isEmpty = false := by rw [Bool.eq_false_iff]; exact fun h => hs0 (isEmpty_size.1 h)
        have HU := Lib.hid (show unl (.mk k u n s ks) = none from by rw [unl, if_neg hk4, if_neg (fun h => hs0 h.2)])
        obtain ⟨R, hR⟩ : ∃ R, unl (.mk k u n s ks) = R := ⟨_, rfl⟩
        rw [hR]
        rw [hR] at HU
        clear hR ht hsl ih hok hnd hm hk4 hk1 hs0
        go_enter Try.func38, Try.ntmps38
        go_wp2_with (first
    | ((with_reducible refine wpList_box_blk w rfl 24 (.tmp 0) rfl (tmC k u n s (.slice ao m c)) rfl ?_); intro a1 hb hbel hsz; have HA1 := Lib.hid (show Below w.heap.size w a1 ∧ Blk a1 w.heap.size 24 (tmC k u n s (.slice ao m c)) from ⟨below_thn H0.out hbel (Nat.le_refl _), hb⟩); have c0 := HA1.out.2.cell 0; have c3 := HA1.out.2.cell 3; have c4 := HA1.out.2.cell 4; simp only [tmC, List.getElem?_cons_zero, List.getElem?_cons_succ] at c0 c3 c4; clear hb hbel hsz))
        refine bodyPost_ret (results_tmp2 Try.results38 _ _ _) rfl ?_
        exact .inr ⟨HU.out, rfl, HA1.out.1⟩

    · have e1 : (k == 1) = false := by simpa using hk1
      have HU := Lib.hid (show unl (.mk k u n s ks) = none from by rw [unl, if_neg hk4, if_neg (fun h => hk1 h.1)])
      obtain ⟨R, hR⟩ : ∃ R, unl (.mk k u n s ks) = R := ⟨_, rfl⟩
      rw [hR]
      rw [hR] at HU
      clear hR ht hsl ih hok hnd hm hk4 hk1
      go_enter Try.func38, Try.ntmps38
      go_wp2_with (first
    | ((with_reducible refine wpList_box_blk w rfl 24 (.tmp 0) rfl (tmC k u n s (.slice ao m c)) rfl ?_); intro a1 hb hbel hsz; have HA1 := Lib.hid (show Below w.heap.size w a1 ∧ Blk a1 w.heap.size 24 (tmC k u n s (.slice ao m c)) from ⟨below_thn H0.out hbel (Nat.le_refl _), hb⟩); have c0 := HA1.out.2.cell 0; have c3 := HA1.out.2.cell 3; have c4 := HA1.out.2.cell 4; simp only [tmC, List.getElem?_cons_zero, List.getElem?_cons_succ] at c0 c3 c4; clear hb hbel hsz))
      refine bodyPost_ret (results_tmp2 Try.results38 _ _ _) rfl ?_
      exact .inr ⟨HU.out, rfl, HA1.out.1⟩

  · subst hk4
    obtain ⟨ta, tb, rfl, oka, okb⟩ := okT_pair hok
    rw [nodes_pair] at hnd
    obtain rfl : m = 2 := hm.symm
    have HIH := Lib.hid (ih tb (by simp))
    have hl0 : 0 < ([ta, tb] : List Tm).length := by simp
    have hl1 : 1 < ([ta, tb] : List Tm).length := by simp
    obtain ⟨b, o', csa, rfl, hbl, -, hra, hta⟩ := hsl.get hl0
    obtain ⟨b', o'', csb, hbo, -, -, hrb, htb⟩ := hsl.get hl1
    simp only [Option.some.injEq, Addr.mk.injEq, and_true] at hbo
    obtain ⟨rfl, rfl⟩ := hbo
    rw [Nat.zero_mul, Nat.add_zero] at hra
    rw [Nat.one_mul] at hrb
    replace hta : TmC (· < lo) w csa ta := hta
    replace htb : TmC (· < lo) w csb tb := htb
    obtain ⟨aa, ca, rfl, -, -, -⟩ := hta.shape
    obtain ⟨ab, cb, rfl, -, -, -⟩ := htb.shape
    have HAB := Lib.hid (show w.rangeAt b o' (tmC ta.k ta.u ta.n ta.s (.slice aa ta.ks.length ca)) ∧ w.rangeAt b (o' + 5) (tmC tb.k tb.u tb.n tb.s (.slice ab tb.ks.length cb)) ∧ TmC (· < lo) w (tmC ta.k ta.u ta.n ta.s (.slice aa ta.ks.length ca)) ta ∧ TmC (· < lo) w (tmC tb.k tb.u tb.n tb.s (.slice ab tb.ks.length cb)) tb ∧ b < w.heap.size ∧ okT tb = true ∧ nodesT tb ≤ 1200 ∧ lo ≤ w.heap.size from ⟨hra, hrb, hta, htb, by have hbl : b < lo := hbl; omega, okb, by omega, hlo⟩)
    have HU := Lib.hid (unl_pair u n s ta tb)
    have HUL := Lib.hid (fun ts (h : unl tb = some ts) => show ts.length ≤ 1200 from by have := unl_len tb ts h; omega)
    obtain ⟨R, hR⟩ : ∃ R, unl (.mk 4 u n s [ta, tb]) = R := ⟨_, rfl⟩
    rw [hR]
    rw [hR] at HU
    clear hR ih hra hrb hta htb hbl hok hnd oka okb hlo ht hm
    clear hsl hl0 hl1
    go_enter Try.func38, Try.ntmps38
    go_wp2_with (first
    | ((with_reducible refine wpList_box_blk w rfl 24 (.tmp 0) rfl (tmC 4 u n s (.slice (some ⟨b, o', none⟩) 2 c)) rfl ?_); intro a1 hb hbel hsz; have HA1 := Lib.hid (show Below w.heap.size w a1 ∧ Blk a1 w.heap.size 24 (tmC 4 u n s (.slice (some ⟨b, o', none⟩) 2 c)) from ⟨below_thn H0.out hbel (Nat.le_refl _), hb⟩); have c0 := HA1.out.2.cell 0; have c4 := HA1.out.2.cell 4; simp only [tmC, List.getElem?_cons_zero, List.getElem?_cons_succ] at c0 c4; have HR1 := Lib.hid (show a1.rangeAt b o' (tmC ta.k ta.u ta.n ta.s (.slice aa ta.ks.length ca)) ∧ a1.rangeAt b (o' + 5) (tmC tb.k tb.u tb.n tb.s (.slice ab tb.ks.length cb)) ∧ TmC (· < lo) a1 (tmC tb.k tb.u tb.n tb.s (.slice ab tb.ks.length cb)) tb from ⟨rangeW_below HAB.out.1 hbel, rangeW_below HAB.out.2.1 hbel, HAB.out.2.2.2.1.below hbel⟩); clear hb hbel hsz)
    | (with_reducible refine wpList_load_any rfl 24 (.tmp 28) rfl b (o' + 5) rfl (tmC tb.k tb.u tb.n tb.s (.slice ab tb.ks.length cb)) _ HR1.out.2.1 Try.underlying24 rfl (tmC_info _ _ _ _ _) ?_))
    refine (HIH.out _ lo a1 HAB.out.2.2.2.2.2.1 HAB.out.2.2.2.2.2.2.1 (Nat.le_trans HAB.out.2.2.2.2.2.2.2 HA1.out.1.size) HR1.out.2.2).mono ?_
    rintro e' a2 (⟨ts, oz, cz, hu, rfl, hk, hb⟩ | ⟨hu, rfl, hb⟩)
    rotate_left
    · have HE := Lib.hid (show R = none from by rw [HU.out, hu]; rfl)
      have HB := Lib.hid (below_thn HA1.out.1 hb (Nat.le_refl _))
      clear hb hu
      go_wp2_with fail
      refine bodyPost_ret (results_tmp2 Try.results38 _ _ _) rfl ?_
      exact .inr ⟨HE.out, rfl, HB.out⟩
    have HE := Lib.hid (show R = some (ta :: ts) from by rw [HU.out, hu]; rfl)
    have HLN := Lib.hid (HUL.out ts hu)
    obtain ⟨l, hl⟩ : ∃ l, ts.length = l := ⟨_, rfl⟩
    have HL := Lib.hid hl
    rw [hl] at hk ⊢
    have HB2 := Lib.hid (show Below w.heap.size w a2 ∧ KidJ a1.heap.size lo (.slice oz l cz) ts a2 ∧ a2.rangeAt b o' (tmC ta.k ta.u ta.n ta.s (.slice aa ta.ks.length ca)) ∧ TmC (· < lo) a2 (tmC ta.k ta.u ta.n ta.s (.slice aa ta.ks.length ca)) ta ∧ Blk a2 w.heap.size 24 (tmC 4 u n s (.slice (some ⟨b, o', none⟩) 2 c)) ∧ w.heap.size < a1.heap.size ∧ a1.heap.size ≤ a2.heap.size ∧ lo ≤ w.heap.size from ⟨below_thn HA1.out.1 hb (Nat.le_refl _), hk, rangeW_below HR1.out.1 hb, (HAB.out.2.2.1.below HA1.out.1).below hb, HA1.out.2.below hb HA1.out.2.lt, HA1.out.2.lt, hb.size, HAB.out.2.2.2.2.2.2.2⟩)
    clear c0 c4
    have c4 := HB2.out.2.2.2.2.1.cell 4
    simp only [tmC, List.getElem?_cons_zero, List.getElem?_cons_succ] at c4
    clear hb hu hk hl HIH HUL
    have hl1200 : l ≤ 1200 := by rw [← HL.out]; exact HLN.out
    go_wp2_with (first
    | (with_reducible refine wpList_load_any rfl 24 (.tmp 37) rfl b o' rfl (tmC ta.k ta.u ta.n ta.s (.slice aa ta.ks.length ca)) _ HB2.out.2.2.1 Try.underlying24 rfl (tmC_info _ _ _ _ _) ?_)
    | ((with_reducible refine wpList_slice_t1 a2 rfl (.tmp 38) rfl (tmC ta.k ta.u ta.n ta.s (.slice aa ta.ks.length ca)) rfl rfl ?_); intro a3 hb hbel hsz; have HB3 := Lib.hid (show Below w.heap.size w a3 ∧ KidJ a1.heap.size lo (.slice oz l cz) ts a3 ∧ KidJ a2.heap.size lo (.slice (some ⟨a2.heap.size, 0, none⟩) 1 1) [ta] a3 ∧ a2.heap.size ≤ a3.heap.size from ⟨below_thn HB2.out.1 hbel (Nat.le_refl _), HB2.out.2.1.below hbel, KidJ.one hb (Nat.le_refl _) (HB2.out.2.2.2.1.below hbel), hbel.size⟩); have HLT := Lib.hid (HB2.out.2.1.lt); clear hb hbel hsz))
    have HG := Lib.hid (show lo ≤ w.heap.size ∧ w.heap.size < a1.heap.size ∧ a1.heap.size ≤ a2.heap.size from ⟨HB2.out.2.2.2.2.2.2.2, HB2.out.2.2.2.2.2.1, HB2.out.2.2.2.2.2.2.1⟩)
    clear c4
    go_loopw [6, 7] (fun q i wr => ∃ (j : Nat) (oq : Option Addr) (pq : Nat), q = .slice oq (j + 1) pq ∧ i = .int .i64 j ∧ j ≤ l ∧ Hid (KidJ a2.heap.size lo (.slice oq (j + 1) pq) (ta :: ts.take j) wr ∧ KidJ a1.heap.size lo (.slice oz l cz) ts wr ∧ Below w.heap.size w wr ∧ a2.heap.size ≤ wr.heap.size)) (fun _ i _ => l - (intOf i).toNat)
    case atStart => exact ⟨0, _, _, rfl, rfl, Nat.zero_le _, Lib.hid ⟨by rw [List.take_zero]; exact HB3.out.2.2.1, HB3.out.2.1, HB3.out.1, HB3.out.2.2.2⟩⟩
    case round =>
      clear HB3 HA1 HR1
      obtain ⟨j, oq, pq, rfl, rfl, hj, HZ⟩ := hrel
      by_cases hlt : j < l
      · have hjk : j < ts.length := by rw [HL.out]; exact hlt
        have hjz : (j : Int) < (l : Int) := by omega
        have hj0 : (0 : Int) ≤ (j : Int) := by omega
        obtain ⟨g, o1, csj, rfl, hrj, htj⟩ := HZ.out.2.1.get hjk
        have HTK := Lib.hid (show (ta :: ts.take j) ++ [ts[j]] = ta :: ts.take (j + 1) from by rw [List.take_succ_eq_append_getElem hjk, List.cons_append])
        generalize ts[j] = kj at htj HTK
        obtain ⟨aj, cj, rfl, -, -, -⟩ := htj.shape
        have hnl : (ta :: ts.take j).length = j + 1 := by rw [List.length_cons, List.length_take]; omega
        have HK := Lib.hid (show wr.rangeAt g (o1 + j * 5) (tmC kj.k kj.u kj.n kj.s (.slice aj kj.ks.length cj)) ∧ TmC (· < lo) wr (tmC kj.k kj.u kj.n kj.s (.slice aj kj.ks.length cj)) kj ∧ (ta :: ts.take j).length = j + 1 ∧ (ta :: ts.take j).length ≤ 1000000 ∧ lo ≤ a2.heap.size from ⟨hrj, htj, hnl, by omega, by have := HG.out; omega⟩)
        clear hrj htj hjk hnl
        go_wp2_with (first
    | (with_reducible refine wpList_load_any rfl 24 (.tmp 49) rfl g (o1 + j * 5) rfl (tmC kj.k kj.u kj.n kj.s (.slice aj kj.ks.length cj)) _ HK.out.1 Try.underlying24 rfl (tmC_info _ _ _ _ _) ?_)
    | ((with_reducible refine wpList_slice_t1 wr rfl (.tmp 50) rfl (tmC kj.k kj.u kj.n kj.s (.slice aj kj.ks.length cj)) rfl rfl ?_); intro b2 hb hbel hsz; have K2 := HZ.out.1.below hbel; have HN2 := Lib.hid (show Blk b2 wr.heap.size 24 (tmC kj.k kj.u kj.n kj.s (.slice aj kj.ks.length cj)) ∧ TmC (· < lo) b2 (tmC kj.k kj.u kj.n kj.s (.slice aj kj.ks.length cj)) kj ∧ KidJ a1.heap.size lo (.slice (some ⟨g, o1, none⟩) l cz) ts b2 ∧ Below w.heap.size w b2 ∧ a2.heap.size ≤ b2.heap.size from ⟨hb, HK.out.2.1.below hbel, HZ.out.2.1.below hbel, below_thn HZ.out.2.2.1 hbel (Nat.le_refl _), Nat.le_trans HZ.out.2.2.2 hbel.size⟩); clear hb hbel hsz)
    | (at_builtin; (refine wpList_append_J (.tmp 46) (.tmp 51) rfl rfl K2 rfl rfl HN2.out.1 HN2.out.2.1 HK.out.2.2.2.1 HN2.out.2.2.2.2 HK.out.2.2.2.2 ?_); intro oy py b3 K3 hc; have HB5 := Lib.hid (show KidJ a1.heap.size lo (.slice (some ⟨g, o1, none⟩) l cz) ts b3 ∧ Below w.heap.size w b3 ∧ a2.heap.size ≤ b3.heap.size from ⟨HN2.out.2.2.1.keep hc (fun k hk e => by have h1 := (K2.lt k e).1; rcases hk with hk | hk; have := HG.out; omega; have := (HLT.out k hk).2; omega), below_ch HN2.out.2.2.2.1 hc (Nat.le_refl _) (fun k hk => by have h1 := (K2.lt k hk).1; have := HG.out; omega), Nat.le_trans HN2.out.2.2.2.2 hc.size⟩); have hnl := HK.out.2.2.1; clear hc))
        go_roundw
        case rel => exact ⟨j + 1, oy, py, by have := HL.out; simp; omega, by go_num, by omega, Lib.hid ⟨by rw [List.length_append, HK.out.2.2.1, HTK.out] at K3; exact K3, HB5.out.1, HB5.out.2.1, HB5.out.2.2⟩⟩
        case measure => simp [intOf]; omega
      · have hge : ¬ (j : Int) < (l : Int) := by omega
        obtain rfl : j = l := by omega
        have HF := Lib.hid (show ts.take j = ts from List.take_of_length_le (by rw [HL.out]; exact Nat.le_refl _))
        go_wp2_with fail
        refine bodyPost_ret (results_tmp2 Try.results38 _ _ _) rfl ?_
        have k1 := HZ.out.1
        rw [HF.out] at k1
        have hn1 : (ta :: ts).length = j + 1 := by rw [List.length_cons, HL.out]
        exact .inl ⟨ta :: ts, oq, pq, HE.out, by rw [hn1]; rfl, by rw [hn1]; exact k1.low (by have := HG.out; omega) (Nat.le_refl _), HZ.out.2.2.1⟩


end Go.Proofs.Ytfenikoajadiaaa
