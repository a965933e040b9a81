/-
  Layer 11's reference: MayRead, walked. Conditions: none.
-/
import Derived.Test.YtampheimonmggaaPmX
import Derived.Test.YtampheimonmggaaPmU
namespace Go.Proofs.Ytampheimonmggaa
open Go Go.RowKit Go.Sort
set_option linter.unusedSimpArgs false
set_option linter.unusedVariables false

theorem grpL_mem {ls : List (Int × Int)} {who g : Int} : g ∈ grpL ls who ↔ (g, who) ∈ ls := by
  unfold grpL
  rw [List.mem_map]
  constructor
  · rintro ⟨⟨a, b⟩, h, rfl⟩
    have h2 := List.mem_filter.1 h
    have : b = who := by simpa using h2.2
    subst this
    exact h2.1
  · intro h
    exact ⟨(g, who), List.mem_filter.2 ⟨h, by simp⟩, rfl⟩
theorem okR_user {p : PmD} (h : OkP p) {n : Int} (hn : n ∈ p.r) : userB n = true := by
  have := riseB_all h.r n hn
  unfold otherB at this
  rw [Bool.and_eq_true] at this
  exact this.1
/-- who may read is a user -/
theorem mayR_user {p : PmD} {n : Int} {m : List (Int × Int)} (h : mayRB p n m = true) : userB n = true := by
  obtain ⟨hok, h⟩ := mayR_iff.1 h
  rcases h with (rfl | h) | h
  · exact hok.o
  · exact okR_user hok h
  · exact h.1


set_option maxRecDepth 100000 in
set_option maxHeartbeats 4000000 in
theorem rmayRead_any (p : PmD) (n : Int) (ls : List (Int × Int)) (vr vq vg vm : Value) (w : World) (hp : PmS w p vr vq vg) (hm : SlP w vm .i64 .i64 ls) :
    Calls Try.prog 23 #[.agg (pmC p.o p.e vr vq vg).toArray, .int .i64 n, vm] w (fun e w' => e = .returned (.bool (mayRB p n ls)) ∧ Below w.heap.size w w') := by
  obtain ⟨ra, rc, rfl, -⟩ := hp.1.shape
  obtain ⟨qa, qc, rfl, -⟩ := hp.2.1.shape
  obtain ⟨ga, gc, rfl, -⟩ := hp.2.2.shape
  obtain ⟨o, pe, pr, pq, pg⟩ := p
  simp only at hp ⊢
  simp only [length_ofK] at hp ⊢
  obtain ⟨ma, mc, rfl, hmc, hmc2, -⟩ := id hm
  obtain ⟨R, hR⟩ : ∃ R, mayRB ⟨o, pe, pr, pq, pg⟩ n ls = R := ⟨_, rfl⟩
  have HR := Lib.hid hR
  rw [hR]
  generalize pr.length = rl at hp ⊢
  generalize pq.length = ql at hp ⊢
  generalize pg.length = gl at hp ⊢
  obtain ⟨ml, hml⟩ : ∃ n, ls.length = n := ⟨_, rfl⟩
  have HML := Lib.hid hml
  rw [hml] at hm hmc ⊢
  have hm63 : ml ≤ 9223372036854775807 := by omega
  have HM := Lib.hid hm
  have H0 := Lib.hid (show PmS w ⟨o, pe, pr, pq, pg⟩ (Value.slice ra rl rc) (Value.slice qa ql qc) (Value.slice ga gl gc) ∧ Below w.heap.size w w from ⟨hp, Below.refl _ _⟩)
  obtain ⟨b1, hb1⟩ : ∃ b, okB ⟨o, pe, pr, pq, pg⟩ = b := ⟨_, rfl⟩
  obtain ⟨b2, hb2⟩ : ∃ b, (n == o) = b := ⟨_, rfl⟩
  obtain ⟨b3, hb3⟩ : ∃ b, inB pr n = b := ⟨_, rfl⟩
  have HB1 := Lib.hid hb1
  have HB2 := Lib.hid hb2
  have HB3 := Lib.hid hb3
  clear hp hm hR hb1 hb3 hml hmc hmc2
  go_enter Try.func23, Try.ntmps23
  go_wp2_with (first
    | ((with_reducible refine wpList_box_blk w rfl 24 (.tmp 0) rfl (pmC o pe (Value.slice ra rl rc) (Value.slice qa ql qc) (Value.slice ga gl gc)) rfl ?_); intro a1 hb hbel hsz; have HA2 := Lib.hid (show PmS a1 ⟨o, pe, pr, pq, pg⟩ (Value.slice ra rl rc) (Value.slice qa ql qc) (Value.slice ga gl gc) ∧ Below w.heap.size w a1 ∧ Blk a1 w.heap.size 24 (pmC o pe (Value.slice ra rl rc) (Value.slice qa ql qc) (Value.slice ga gl gc)) from ⟨H0.out.1.below hbel, below_thn H0.out.2 hbel (Nat.le_refl _), hb⟩); have c0 := HA2.out.2.2.cell 0; have c1 := HA2.out.2.2.cell 1; have c2 := HA2.out.2.2.cell 2; have c3 := HA2.out.2.2.cell 3; have c4 := HA2.out.2.2.cell 4; simp only [pmC, List.getElem?_cons_zero, List.getElem?_cons_succ] at c0 c1 c2 c3 c4; clear c0 c1 c2 c3 c4; clear hb hbel hsz)
    | (with_reducible refine wpList_load_any rfl 24 (.tmp 3) rfl w.heap.size 0 rfl (pmC o pe (Value.slice ra rl rc) (Value.slice qa ql qc) (Value.slice ga gl gc)) _ (rangeW_blk HA2.out.2.2) Try.underlying24 rfl (pmC_info _ _ _ _ _) ?_))
  have hx := rright_any ⟨o, pe, pr, pq, pg⟩ _ _ _ a1 HA2.out.1
  rw [HB1.out] at hx
  refine Calls.mono hx ?_
  clear hx
  rintro e' y1 ⟨rfl, hb⟩
  have HY1 := Lib.hid (show PmS y1 ⟨o, pe, pr, pq, pg⟩ (Value.slice ra rl rc) (Value.slice qa ql qc) (Value.slice ga gl gc) ∧ Below w.heap.size w y1 ∧ Blk y1 w.heap.size 24 (pmC o pe (Value.slice ra rl rc) (Value.slice qa ql qc) (Value.slice ga gl gc)) from ⟨HA2.out.1.below hb, below_thn HA2.out.2.1 hb (Nat.le_refl _), HA2.out.2.2.below hb HA2.out.2.2.lt⟩)
  clear hb
  have c0 := HY1.out.2.2.cell 0
  have c2 := HY1.out.2.2.cell 2
  simp only [pmC, List.getElem?_cons_zero, List.getElem?_cons_succ] at c0 c2
  cases b1
  · have HE := Lib.hid (show R = false from by rw [← HR.out]; exact Bool.eq_false_iff.2 (fun h => by have h1 := (mayR_iff.1 h).1; rw [← okB_iff, HB1.out] at h1; cases h1))
    go_wp2_with fail
    go_ret
    exact ⟨by rw [HE.out]; rfl, HY1.out.2.1⟩
  by_cases h1 : 1 ≤ n
  rotate_left
  · have h1' : n < 1 := by omega
    have HE := Lib.hid (show R = false from by rw [← HR.out]; exact Bool.eq_false_iff.2 (fun h => by have h9 := mayR_user h; simp [userB] at h9; omega))
    go_wp2_with fail
    go_ret
    exact ⟨by rw [HE.out]; rfl, HY1.out.2.1⟩
  have h1' : ¬ n < 1 := by omega
  by_cases h2 : n ≤ 6
  rotate_left
  · have h2' : 6 < n := by omega
    have HE := Lib.hid (show R = false from by rw [← HR.out]; exact Bool.eq_false_iff.2 (fun h => by have h9 := mayR_user h; simp [userB] at h9; omega))
    go_wp2_with fail
    go_ret
    exact ⟨by rw [HE.out]; rfl, HY1.out.2.1⟩
  have h2' : ¬ 6 < n := by omega
  have HU := Lib.hid (show userB n = true from by unfold userB; rw [Bool.and_eq_true, decide_eq_true_eq, decide_eq_true_eq]; exact ⟨h1, h2⟩)
  clear h1 h2
  cases b2
  rotate_left
  · have HE := Lib.hid (show R = true from by rw [← HR.out]; exact mayR_iff.2 ⟨okB_iff.1 HB1.out, .inl (.inl (by simpa using HB2.out))⟩)
    go_wp2_with fail
    go_ret
    exact ⟨by rw [HE.out]; rfl, HY1.out.2.1⟩
  go_wp2_with fail
  clear c0 c2 h1' h2'
  have hx := rin_any (.slice ra rl rc) pr n y1 HY1.out.1.1
  rw [HB3.out] at hx
  refine Calls.mono hx ?_
  clear hx
  rintro e' y2 ⟨rfl, rfl⟩
  cases b3
  rotate_left
  · have HE := Lib.hid (show R = true from by rw [← HR.out]; exact mayR_iff.2 ⟨okB_iff.1 HB1.out, .inl (.inr (inB_iff.1 HB3.out))⟩)
    go_wp2_with fail
    go_ret
    exact ⟨by rw [HE.out]; rfl, HY1.out.2.1⟩
  go_wp2_with fail
  go_loopw [7] (fun i wr => ∃ k : Nat, k ≤ ml ∧ i = .int .i64 k ∧ Hid (∀ j (hj : j < ls.length), j < k → ¬ (ls[j].2 = n ∧ ls[j].1 ∈ pg)) ∧ Hid (Blk wr w.heap.size 24 (pmC o pe (Value.slice ra rl rc) (Value.slice qa ql qc) (Value.slice ga gl gc)) ∧ PmS wr ⟨o, pe, pr, pq, pg⟩ (Value.slice ra rl rc) (Value.slice qa ql qc) (Value.slice ga gl gc) ∧ Below w.heap.size w wr)) (fun i _ => ml - (intOf i).toNat)
  case atStart => exact ⟨0, Nat.zero_le _, rfl, Lib.hid (fun j _ hj => by omega), Lib.hid ⟨HY1.out.2.2, HY1.out.1, HY1.out.2.1⟩⟩
  case round =>
    clear HY1
    obtain ⟨k, hk, rfl, HT, HZ⟩ := hrel
    by_cases hlt : k < ml
    · have hkl : k < ls.length := by rw [HML.out]; exact hlt
      have hklz : (k : Int) < (ml : Int) := by omega
      have hk0 : (0 : Int) ≤ (k : Int) := by omega
      obtain ⟨ao', c', e0, -, -, hcl⟩ := HM.out.below HZ.out.2.2
      obtain ⟨b, oo, e1, -, hcell⟩ := hcl (by omega)
      subst e1
      simp only [Value.slice.injEq] at e0
      obtain ⟨rfl, -, rfl⟩ := e0
      have ce := (hcell k hkl).1
      have cu := (hcell k hkl).2
      have HAT := Lib.hid (show ∀ j (hj : j < ls.length), j = k → ls[j] = ls[k] from fun j hj e => by subst e; rfl)
      have HMEM := Lib.hid (List.getElem_mem hkl)
      generalize ls[k] = gu at ce cu HAT HMEM
      obtain ⟨g, u⟩ := gu
      simp only at ce cu
      obtain ⟨z, hz⟩ : ∃ z, (u == n) = z := ⟨_, rfl⟩
      have HZ1 := Lib.hid hz
      obtain ⟨z2, hz2⟩ : ∃ z, inB pg g = z := ⟨_, rfl⟩
      have HZ2 := Lib.hid hz2
      have C1 := Lib.hid (fun x => show Calls Try.prog 42 #[.slice ga gl gc, .int .i64 g] (grew wr x) (fun e w' => e = .returned (.bool z2) ∧ w' = grew wr x) from by have h := rin_any (.slice ga gl gc) pg g (grew wr x) (HZ.out.2.1.2.2.below (below_grew wr x) (Nat.le_refl _)); rw [hz2] at h; exact h.mono fun _ _ ⟨he, hm⟩ => ⟨he, hm.symm⟩)
      clear hcell hcl hz2 hkl
      have c4 := HZ.out.1.cell 4
      simp only [pmC, List.getElem?_cons_zero, List.getElem?_cons_succ] at c4
      have g4 := fun q => cell_grew c4 q
      have ge := fun q => cell_grew ce q
      have gu := fun q => cell_grew cu q
      clear c4 ce cu
      go_wp2_with fail
      cases z
      · skip
        refine wp_region_grew (by kernel_rfl) (by kernel_rfl) ?_
        repeat (first | go_big_quiet_skip | (go_big_quiet_want; go_big_quiet_op; (first | go_big_quiet_on | (apply Exists.intro; refine ⟨fun _ => ?_, ?_⟩; (focus (go_at_call 42; with_reducible exact calls_grew_same (C1.out _))); go_big_quiet_on))))
        refine wpQuiet_nil ?_
        intro w2 hw2
        obtain ⟨qq, rfl⟩ := hw2
        have HB9 := Lib.hid (below_grew wr qq)
        clear g4 ge gu C1
        go_wp2_with fail
        go_round
        case rel => exact ⟨k + 1, by omega, by go_num, Lib.hid (fun j hj h1 => by
          rcases Nat.lt_or_ge j k with h | h
          · exact HT.out j hj h
          · rw [HAT.out j hj (by omega)]; exact fun h => by have h9 := HZ1.out; simp at h9; exact h9 h.1), Lib.hid ⟨HZ.out.1.below HB9.out HZ.out.1.lt, HZ.out.2.1.below HB9.out, below_thn HZ.out.2.2 HB9.out (Nat.le_refl _)⟩⟩
        case measure => simp [intOf]; omega
      · cases z2
        · skip
          refine wp_region_grew (by kernel_rfl) (by kernel_rfl) ?_
          repeat (first | go_big_quiet_skip | (go_big_quiet_want; go_big_quiet_op; (first | go_big_quiet_on | (apply Exists.intro; refine ⟨fun _ => ?_, ?_⟩; (focus (go_at_call 42; with_reducible exact calls_grew_same (C1.out _))); go_big_quiet_on))))
          refine wpQuiet_nil ?_
          intro w2 hw2
          obtain ⟨qq, rfl⟩ := hw2
          have HB9 := Lib.hid (below_grew wr qq)
          clear g4 ge gu C1
          go_wp2_with fail
          go_round
          case rel => exact ⟨k + 1, by omega, by go_num, Lib.hid (fun j hj h1 => by
            rcases Nat.lt_or_ge j k with h | h
            · exact HT.out j hj h
            · rw [HAT.out j hj (by omega)]; exact fun h => inB_no.1 HZ2.out h.2), Lib.hid ⟨HZ.out.1.below HB9.out HZ.out.1.lt, HZ.out.2.1.below HB9.out, below_thn HZ.out.2.2 HB9.out (Nat.le_refl _)⟩⟩
          case measure => simp [intOf]; omega
        · skip
          have HE := Lib.hid (show R = true from by rw [← HR.out]; exact mayR_iff.2 ⟨okB_iff.1 HB1.out, .inr ⟨HU.out, g, grpL_mem.2 (by have h := HZ1.out; simp at h; have h2 := HMEM.out; rw [h] at h2; exact h2), inB_iff.1 HZ2.out⟩⟩)
          refine wp_region_grew (by kernel_rfl) (by kernel_rfl) ?_
          repeat (first | go_big_quiet_skip | (go_big_quiet_want; go_big_quiet_op; (first | go_big_quiet_on | (apply Exists.intro; refine ⟨fun _ => ?_, ?_⟩; (focus (go_at_call 42; with_reducible exact calls_grew_same (C1.out _))); go_big_quiet_on))))
          refine wpQuiet_nil ?_
          intro w2 hw2
          obtain ⟨qq, rfl⟩ := hw2
          have HB9 := Lib.hid (below_grew wr qq)
          clear g4 ge gu C1
          go_wp2_with fail
          go_ret
          exact ⟨by rw [HE.out]; rfl, below_thn HZ.out.2.2 HB9.out (Nat.le_refl _)⟩
    · have hge : ¬ (k : Int) < (ml : Int) := by omega
      have HE := Lib.hid (show R = false from by
        rw [← HR.out]
        refine Bool.eq_false_iff.2 (fun h => ?_)
        obtain ⟨-, (h1 | h1) | ⟨-, g, hg, hgp⟩⟩ := mayR_iff.1 h
        · have h9 := HB2.out; simp at h9; exact h9 h1
        · exact inB_no.1 HB3.out h1
        · obtain ⟨j, hj, e⟩ := List.mem_iff_getElem.1 (grpL_mem.1 hg)
          exact HT.out j hj (by rw [HML.out] at hj; omega) (by rw [e]; exact ⟨rfl, hgp⟩))
      go_wp2_with fail
      go_ret
      exact ⟨by rw [HE.out]; rfl, HZ.out.2.2⟩


end Go.Proofs.Ytampheimonmggaa
