/-
  OctetReturns, walked. Conditions: the numbers fit their kinds.
-/
import Derived.Test.YtpchiokeckaacaaWakes
import Derived.Test.YtpchiokeckaacaaBe
import Derived.BigQuiet
import Derived.Deep.QuietTactic
import Derived.Deep.RegionHeld3
import Derived.Deep.DeepCutAuto
namespace Go.Proofs.Ytpchiokeckaacaa
open Go Go.RowKit

theorem SlP.take {w : World} {ao : Option Addr} {len c : Nat} {k0 k1 : IntKind} {ls : List (Int × Int)} (h : SlP w (.slice ao len c) k0 k1 ls) (n : Nat) (hn : n ≤ ls.length) : SlP w (.slice ao n c) k0 k1 (ls.take n) := by
  obtain ⟨ao', c', e, h1, h2, h3⟩ := h
  cases e
  refine ⟨ao, c, by simp [hn], by simp; omega, h2, fun h0 => ?_⟩
  have h0' : 0 < ls.length := by simp at h0; omega
  obtain ⟨b, o, e1, e2, e3⟩ := h3 h0'
  refine ⟨b, o, e1, e2, fun j hj => ?_⟩
  have hj' : j < ls.length := by simp at hj; omega
  have := e3 j hj'
  simpa using this
theorem SlP.below {B : Nat} {w w' : World} {v : Value} {k0 k1 : IntKind} {ls : List (Int × Int)} (h : SlP w v k0 k1 ls) (hw : Below B w w') (hB : w.heap.size ≤ B) : SlP w' v k0 k1 ls := by
  obtain ⟨ao, c, e, h1, h2, h3⟩ := h
  refine ⟨ao, c, e, h1, h2, fun h0 => ?_⟩
  obtain ⟨b, o, e1, e2, e3⟩ := h3 h0
  refine ⟨b, o, e1, Nat.lt_of_lt_of_le e2 hw.size, fun j hj => ?_⟩
  rw [hw.cell (by show b < B; omega), hw.cell (by show b < B; omega)]
  exact e3 j hj

/-- which of the three widths -/
def selI (wd : Int) : Int := (IntKind.u64.wrap wd).tmod 3
theorem selI_cases (wd : Int) : selI wd = 0 ∨ selI wd = 1 ∨ selI wd = 2 := by
  unfold selI
  rw [IntKind.wrap_u64, Int.tmod_eq_emod_of_nonneg (by omega)]
  omega
theorem selI_bool (wd : Int) : ((selI wd = 0 ∧ ((IntKind.u64.wrap wd).tmod 3 == 0) = true) ∨
    (selI wd = 1 ∧ ((IntKind.u64.wrap wd).tmod 3 == 0) = false ∧ ((IntKind.u64.wrap wd).tmod 3 == 1) = true) ∨
    (selI wd = 2 ∧ ((IntKind.u64.wrap wd).tmod 3 == 0) = false ∧ ((IntKind.u64.wrap wd).tmod 3 == 1) = false ∧ ((IntKind.u64.wrap wd).tmod 3 == 2) = true)) := by
  have h := selI_cases wd
  unfold selI at *
  rcases h with h | h | h <;> rw [h] <;> simp
/-- the bytes of a number that is laid -/
def laidOne (x : Int × Int) : List Int := if selI x.1 = 0 then beF (x.2 % 65536) 2 else if selI x.1 = 1 then beF (x.2 % 4294967296) 4 else beF x.2 8
def laidAll (ls : List (Int × Int)) : List Int := ls.flatMap laidOne
theorem laidOne_length (x : Int × Int) : 2 ≤ (laidOne x).length ∧ (laidOne x).length ≤ 8 := by
  unfold laidOne; split <;> (try split) <;> simp [beF_length]
theorem laidAll_le (ls : List (Int × Int)) : (laidAll ls).length ≤ 8 * ls.length := by
  induction ls with
  | nil => simp [laidAll]
  | cons x ls ih =>
    have := laidOne_length x
    simp only [laidAll, List.flatMap_cons, List.length_append, List.length_cons] at *
    omega
theorem laidAll_snoc (ls : List (Int × Int)) (k : Nat) (h : k < ls.length) : laidAll (ls.take (k + 1)) = laidAll (ls.take k) ++ laidOne ls[k] := by
  rw [List.take_succ_eq_append_getElem h, laidAll, List.flatMap_append]; simp [laidAll]

theorem laidAll_drop (ls : List (Int × Int)) (k : Nat) (h : k < ls.length) : laidAll (ls.drop k) = laidOne ls[k] ++ laidAll (ls.drop (k + 1)) := by
  unfold laidAll; rw [List.drop_eq_getElem_cons h, List.flatMap_cons]
theorem laidOne_allB (x : Int × Int) : AllB (laidOne x) := by
  unfold laidOne; split <;> (try split) <;> exact beF_allB _ _
theorem laidAll_allB (ls : List (Int × Int)) : AllB (laidAll ls) := by
  intro c hc
  obtain ⟨x, _, hx⟩ := List.mem_flatMap.1 hc
  exact laidOne_allB x c hx

set_option maxRecDepth 100000 in
set_option maxHeartbeats 2000000 in
theorem octetReturns_walk (v1 : Value) (ls : List (Int × Int)) (v2 : Value) (ys : List Int) (w : World) (h1 : SlP w v1 .i64 .u64 ls) (hwf' : ∀ x ∈ ls, (Lit.int .i64 x.1).wf = true ∧ (Lit.int .u64 x.2).wf = true) (h2 : Sl w v2 (ofK .u8 ys)) (a2 : AllB ys) (_l2 : ys.length ≤ 140737488351232) :
    Calls Try.prog 7 #[v1, v2] w (TrueP w) := by
  have hwf : ∀ x ∈ ls, 0 ≤ x.2 ∧ x.2 ≤ 18446744073709551615 := fun x hx => wf_u64 (hwf' x hx).2
  clear hwf' _l2
  go_enter Try.func7, Try.ntmps7
  go_wp2_with fail
  refine (wakes_any w).mono ?_
  rintro e w1 ⟨rfl, B1⟩
  have HB := Lib.hid B1
  have g1 := h1.below B1 (Nat.le_refl _)
  have g2 := h2.below B1 (Nat.le_refl _)
  clear B1 h1 h2
  have G1 := g1
  have G2 := g2
  obtain ⟨ao, c, rfl, b2, b3, -⟩ := g1
  obtain ⟨bo, d, rfl, d2, d3, -⟩ := g2.nums
  clear g2
  have HG := Lib.hid (And.intro G1 G2)
  have HW := Lib.hid hwf
  clear hwf
  clear G1 G2
  go_upto_region 3 with fail
  go_cut [0, 1] (fun s0 s1 wx => ∃ n m : Nat, n ≤ ls.length ∧ n ≤ 60 ∧ m ≤ ys.length ∧ m ≤ 400 ∧ s0 = .slice ao n c ∧ s1 = .slice bo m d ∧ Sm w1 wx)
  case first =>
    by_cases hl : 60 < ls.length
    · by_cases hy : 400 < ys.length
      · go_quiet (fail)
        all_goals (go_wp2_with fail; go_meet; exact ⟨60, 400, by omega, by omega, by omega, by omega, rfl, rfl, (Sm.refl _).drewN _⟩)
      · go_quiet (fail)
        all_goals (go_wp2_with fail; go_meet; exact ⟨60, ys.length, by omega, by omega, by omega, by omega, rfl, rfl, (Sm.refl _).drewN _⟩)
    · by_cases hy : 400 < ys.length
      · go_quiet (fail)
        all_goals (go_wp2_with fail; go_meet; exact ⟨ls.length, 400, by omega, by omega, by omega, by omega, rfl, rfl, (Sm.refl _).drewN _⟩)
      · go_quiet (fail)
        all_goals (go_wp2_with fail; go_meet; exact ⟨ls.length, ys.length, by omega, by omega, by omega, by omega, rfl, rfl, (Sm.refl _).drewN _⟩)
  case rest =>
    obtain ⟨n, m, hn1, hn2, hm1, hm2, rfl, rfl, hsm⟩ := hcut
    have hB := Lib.hid (HB.out.trans (hsm.below _))
    obtain ⟨q, hq1, hq2, hq3⟩ : ∃ q, SlP wc (.slice ao n c) .i64 .u64 q ∧ n = q.length ∧ Hid (∀ x ∈ q, 0 ≤ x.2 ∧ x.2 ≤ 18446744073709551615) := ⟨_, (HG.out.1.take n hn1).below (hsm.below _) (Nat.le_refl _), by simp; omega, Lib.hid (fun x hx => HW.out x (List.mem_of_mem_take hx))⟩
    obtain ⟨p, hp1, hp2, hp3⟩ : ∃ p, Sl wc (.slice bo m d) (ofK .u8 p) ∧ m = p.length ∧ AllB p := by
      refine ⟨ys.take m, ?_, by simp; omega, fun c hc => a2 c (List.mem_of_mem_take hc)⟩
      have := HG.out.2.take m (by rw [length_ofK]; exact hm1)
      rw [take_ofK] at this
      exact hsm.sl this
    have b2' : n ≤ c := by omega
    have d2' : m ≤ d := by omega
    clear hsm HB HG HW a2 hn1 hm1 b2 d2
    clear ls ys
    subst hq2 hp2
    obtain ⟨ao', c', he, -, -, hcells⟩ := id hq1
    cases he
    go_wp2
    go_loopw [5, 29] (fun v i wr => ∃ k : Nat, k ≤ q.length ∧ i = .int .i64 k ∧ (∃ vo vn vc, v = .slice vo vn vc ∧ vn = (laidAll (q.take k)).length) ∧ Sl wr v (ofK .u8 (laidAll (q.take k))) ∧ Below wc.heap.size wc wr) (fun _ i _ => q.length - (intOf i).toNat)
    case atStart => exact ⟨0, Nat.zero_le _, rfl, ⟨_, _, _, rfl, rfl⟩, Sl.nil _, Below.refl _ _⟩
    case round =>
      obtain ⟨k, hk, rfl, ⟨vo, vn, vc, rfl, hvn⟩, hs, hbel⟩ := hrel
      have HV := Lib.hid hvn
      clear hvn
      by_cases hlt : k < q.length
      · obtain ⟨b, o, rfl, hbw, hcell⟩ := hcells (by omega)
        obtain ⟨cc1, cc2⟩ := hcell k hlt
        rw [← hbel.cell (p := ⟨b, o + k * 2, none⟩) hbw] at cc1
        rw [← hbel.cell (p := ⟨b, o + k * 2 + 1, none⟩) hbw] at cc2
        obtain ⟨x, hx⟩ : ∃ x, x = q[k] := ⟨_, rfl⟩
        rw [← hx] at cc1 cc2
        have hxx := hq3.out x (by rw [hx]; exact List.getElem_mem hlt)
        have hsn := laidAll_snoc q k hlt
        rw [← hx] at hsn
        have HL : Hid ((laidAll (q.take k)).length ≤ 140737488351232) := Lib.hid (by have h1 := laidAll_le (q.take k); have h2 := List.length_take_le k q; omega)
        clear hcells hcell hx
        obtain ⟨xw, xx⟩ := x
        have x0 : 0 ≤ xx := hxx.1
        have HX := Lib.hid hxx
        clear hxx
        rcases selI_bool xw with ⟨hsel, t0⟩ | ⟨hsel, t0, t1⟩ | ⟨hsel, t0, t1, t2⟩
        · have hw16 : IntKind.u16.wrap xx = xx % 65536 := by simp [IntKind.wrap, IntKind.bits, IntKind.signed]
          obtain ⟨n', hn'⟩ : ∃ n', n' = (laidAll (q.take (k + 1))).length := ⟨_, rfl⟩
          have ho : laidAll (q.take k) ++ beF (IntKind.u16.wrap xx) 2 = laidAll (q.take (k + 1)) := by rw [hsn]; unfold laidOne; rw [if_pos hsel, hw16]
          have hn2' : (laidAll (q.take k)).length + 2 = n' := by rw [hn', ← ho, List.length_append, beF_length]
          have HW16 := Lib.hid hw16
          clear hw16
          have HO := Lib.hid ho
          have HN := Lib.hid (And.intro hn' hn2')
          clear hsn ho hn' hn2' hsel
          go_wp2_with fail
          refine (put16_of _ (laidAll (q.take k)) (IntKind.u16.wrap xx) _ n' _ (hs.below ((Below.refl _ _).alloc (Nat.le_refl _) _) (Nat.le_refl _)) HL.out (by rw [HW16.out]; omega) HN.out.2 HO.out).mono ?_
          rintro e w2 ⟨ao, c, rfl, hown, hb2⟩
          have B2 := Lib.hid (below_thn (hbel.alloc hbel.size _) hb2 (Nat.le_refl _))
          have S2 := Lib.hid (Sl.of_owns hown)
          clear hown hb2 hbel hs
          go_wp2
          go_roundw
          case rel => exact ⟨k + 1, by omega, by go_num, ⟨_, _, _, rfl, HN.out.1⟩, S2.out, B2.out⟩
          case measure => simp [intOf]; omega
        · have hs1 : ¬ selI xw = 0 := by omega
          obtain ⟨n', hn'⟩ : ∃ n', n' = (laidAll (q.take (k + 1))).length := ⟨_, rfl⟩
          have ho : laidAll (q.take k) ++ beF (xx % 4294967296) 4 = laidAll (q.take (k + 1)) := by rw [hsn]; unfold laidOne; rw [if_neg hs1, if_pos hsel]
          have hn2' : (laidAll (q.take k)).length + 4 = n' := by rw [hn', ← ho, List.length_append, beF_length]
          have HO := Lib.hid ho
          have HN := Lib.hid (And.intro hn' hn2')
          clear hs1 hsn ho hn' hn2' hsel
          go_wp2_with fail
          refine (put32_of _ (laidAll (q.take k)) (xx % 4294967296) _ n' _ (hs.below ((Below.refl _ _).alloc (Nat.le_refl _) _) (Nat.le_refl _)) HL.out (by omega) HN.out.2 HO.out).mono ?_
          rintro e w2 ⟨ao, c, rfl, hown, hb2⟩
          have B2 := Lib.hid (below_thn (hbel.alloc hbel.size _) hb2 (Nat.le_refl _))
          have S2 := Lib.hid (Sl.of_owns hown)
          clear hown hb2 hbel hs
          go_wp2
          go_roundw
          case rel => exact ⟨k + 1, by omega, by go_num, ⟨_, _, _, rfl, HN.out.1⟩, S2.out, B2.out⟩
          case measure => simp [intOf]; omega
        · have hs1 : ¬ selI xw = 0 := by omega
          have hs2 : ¬ selI xw = 1 := by omega
          obtain ⟨n', hn'⟩ : ∃ n', n' = (laidAll (q.take (k + 1))).length := ⟨_, rfl⟩
          have ho : laidAll (q.take k) ++ beF xx 8 = laidAll (q.take (k + 1)) := by rw [hsn]; unfold laidOne; rw [if_neg hs1, if_neg hs2]
          have hn2' : (laidAll (q.take k)).length + 8 = n' := by rw [hn', ← ho, List.length_append, beF_length]
          have HO := Lib.hid ho
          have HN := Lib.hid (And.intro hn' hn2')
          clear hs1 hs2 hsn ho hn' hn2' hsel
          go_wp2_with fail
          refine (put64_of _ (laidAll (q.take k)) xx _ n' _ (hs.below ((Below.refl _ _).alloc (Nat.le_refl _) _) (Nat.le_refl _)) HL.out x0 HN.out.2 HO.out).mono ?_
          rintro e w2 ⟨ao, c, rfl, hown, hb2⟩
          have B2 := Lib.hid (below_thn (hbel.alloc hbel.size _) hb2 (Nat.le_refl _))
          have S2 := Lib.hid (Sl.of_owns hown)
          clear hown hb2 hbel hs
          go_wp2
          go_roundw
          case rel => exact ⟨k + 1, by omega, by go_num, ⟨_, _, _, rfl, HN.out.1⟩, S2.out, B2.out⟩
          case measure => simp [intOf]; omega
      · obtain rfl : k = q.length := by omega
        rw [List.take_of_length_le (Nat.le_refl _)] at hs HV
        have hln : (laidAll q).length ≤ 480 := by have := laidAll_le q; omega
        have hp1' := hp1.below hbel (Nat.le_refl _)
        obtain ⟨i0, hi, hz0, hz1, hz2⟩ := info_parts Try.info5
        have hvn : vn ≤ 480 := by rw [HV.out]; exact hln
        have hown0 := (Blk.new wr [] 5).owns (base := wr.heap.size) (Nat.le_refl _) (by simp)
        have HO0 := Lib.hid hown0
        have hs0 := hs.below ((Below.refl wr.heap.size wr).alloc (Nat.le_refl _) (.cells #[] 5)) (Nat.le_refl _)
        have HS0 := Lib.hid hs0
        have HP := Lib.hid hp1'
        have HPc := Lib.hid hp1
        have HBl := Lib.hid hbel
        have HQ := Lib.hid hq1
        have HCe := Lib.hid hcells
        clear hown0 hs0 hp1' hbel hs hp1 hq1 hcells
        go_wp2_with (at_builtin; refine wpList_append_sl _ rfl (.tmp 58) (.tmp 59) 22 rfl wr.heap.size 5 i0 (.int .u8 0) 1 Try.underlying22 hi hz0 hz1 hz2 rfl (.slice (some ⟨wr.heap.size, 0, none⟩) 0 0) 0 [] rfl HO0.out _ _ rfl HS0.out (one_ofK _ _) vn ?_ ?_ ?_ ?_ ?_)
        · rw [HV.out]; simp [ofK]
        · unfold maxLen; omega
        · omega
        · simp
        · intro ao1 c1 w2 hown1 hgr1 _
          have hb2 : Below wr.heap.size wr w2 := ((Below.refl wr.heap.size wr).alloc (Nat.le_refl _) (.cells #[] 5)).grown hgr1 (by simp) (fun k hk => by cases hk; exact Nat.le_refl _)
          have HO1 := Lib.hid hown1
          have HP2 := Lib.hid (HP.out.below hb2 (Nat.le_refl _))
          have HB2 := Lib.hid hb2
          have hz2' : wr.heap.size ≤ w2.heap.size := hb2.size
          clear HO0 HS0 HP hown1 hgr1 hb2
          go_wp2_with (at_builtin; refine wpList_append_sl _ rfl (.tmp 60) (.tmp 61) 22 rfl wr.heap.size 5 i0 (.int .u8 0) 1 Try.underlying22 hi hz0 hz1 hz2 rfl (.slice ao1 vn c1) vn (ofK .u8 (laidAll q)) rfl HO1.out _ _ rfl HP2.out (one_ofK _ _) (vn + p.length) ?_ ?_ ?_ ?_ ?_)
          · simp [ofK]
          · unfold maxLen; omega
          · omega
          · omega
          · intro ao3 c3 w3 hown3 hgr3 hblk3
            have hlt1 := fun k hk => (HO1.out.lt k hk).1
            have hb3 : Below wr.heap.size wr w3 := HB2.out.grown hgr3 hz2' (fun k hk => hlt1 k hk)
            have hs3 := Sl.of_owns hown3
            have e3 : ofK .u8 (laidAll q) ++ ofK .u8 p = ofK .u8 (laidAll q ++ p) := by simp [ofK]
            rw [e3] at hs3
            have HS3 := Lib.hid hs3
            have HB3 := Lib.hid hb3
            clear HO1 HP2 HB2 hown3 hgr3 hblk3 hlt1 hb3 hs3 e3 hz2'
            go_wp2_with fail
            refine (read_any _ (laidAll q ++ p) w3 HS3.out (by rw [List.length_append]; omega)).mono ?_
            rintro e w4 ⟨b, r, rfl, hb1, hb2, hr1, hr2, hrd, hbel4⟩
            have s3 := HB3.out.size
            have s0 := HBl.out.size
            have HB4 := Lib.hid (below_thn (HBl.out.trans (HB3.out.mono s0)) hbel4 (by omega))
            have HR := Lib.hid hrd
            have hrest : AllB (laidAll q ++ p) := fun c hc => by
              rcases List.mem_append.1 hc with h | h
              · exact laidAll_allB q c h
              · exact hp3 c h
            clear HB3 HBl hbel4 hrd HS3
            go_wp2
            go_loopw [9, 71] (fun s9 i wq => ∃ k : Nat, k ≤ q.length ∧ i = .int .i64 k ∧ ∃ lf : Nat, s9 = .int .i64 lf ∧ Hid (lf = (laidAll (q.drop k) ++ p).length) ∧ lf ≤ 880 ∧ Hid (Rd wq b r (laidAll (q.drop k) ++ p) 0) ∧ Hid (Below wc.heap.size wc wq) ∧ r < wq.heap.size) (fun _ i _ => q.length - (intOf i).toNat)
            case atStart => exact ⟨0, Nat.zero_le _, rfl, vn + p.length, rfl, Lib.hid (by rw [HV.out]; simp), by omega, HR, HB4, hr2⟩
            case round =>
              clear HR HB4 hr2
              obtain ⟨k, hk, rfl, lf, rfl, HL, hlf, HR, HB, hrl⟩ := hrel
              by_cases hlt : k < q.length
              · obtain ⟨bq, oq, rfl, hbw, hcell⟩ := HCe.out (by omega)
                obtain ⟨cc1, cc2⟩ := hcell k hlt
                rw [← HB.out.cell (p := ⟨bq, oq + k * 2, none⟩) hbw] at cc1
                rw [← HB.out.cell (p := ⟨bq, oq + k * 2 + 1, none⟩) hbw] at cc2
                obtain ⟨x, hx⟩ : ∃ x, x = q[k] := ⟨_, rfl⟩
                rw [← hx] at cc1 cc2
                have hxx := hq3.out x (by rw [hx]; exact List.getElem_mem hlt)
                have hsn := laidAll_drop q k hlt
                rw [← hx] at hsn
                have HC2 := Lib.hid hcell
                clear hcell hx
                obtain ⟨xw, xx⟩ := x
                have x0 : 0 ≤ xx := hxx.1
                have HX := Lib.hid hxx
                clear hxx
                have HRA : Hid (AllB (laidAll (q.drop (k + 1)) ++ p)) := Lib.hid (fun c hc => by
                  rcases List.mem_append.1 hc with h | h
                  · exact laidAll_allB _ c h
                  · exact hp3 c h)
                have hrd := HR.out
                rw [hsn, List.append_assoc] at hrd
                have hlen : lf = (laidOne (xw, xx)).length + (laidAll (q.drop (k + 1)) ++ p).length := by rw [HL.out, hsn]; simp
                rcases selI_bool xw with ⟨hsel, t0⟩ | ⟨hsel, t0, t1⟩ | ⟨hsel, t0, t1, t2⟩
                · have h16 : IntKind.u16.wrap xx = xx % 65536 := by simp [IntKind.wrap, IntKind.bits, IntKind.signed]
                  have hone : laidOne (xw, xx) = beF (xx % 65536) 2 := by unfold laidOne; rw [if_pos hsel]
                  rw [hone] at hrd hlen
                  rw [beF_length] at hlen
                  obtain ⟨lr, hlr⟩ : ∃ lr, lr = (laidAll (q.drop (k + 1)) ++ p).length := ⟨_, rfl⟩
                  rw [← hlr, Nat.add_comm] at hlen
                  subst hlen
                  have HLR := Lib.hid hlr
                  have HRD := Lib.hid hrd
                  have hts : (IntKind.u64.wrap xw).tmod 3 = 0 := hsel
                  have hbl : b < wr.heap.size := HR.out.lt
                  clear hlr hrd hone hsn HL HR hsel 
                  go_wp2_with fail
                  go_region_held3 (fun w' => w'.cell? ⟨wr.heap.size, 0 + 1, none⟩ = some (.int .u64 xx)) (first | (refine (hch.cell (by simp) (by simp; omega)).trans ?_; simp [go_sem]; done) | go_keep) ((go_at_call 21; refine (u16_be b r (xx % 65536) _ _ (HRD.out.keep (S := fun _ => False) (by repeat (first | exact Ch.refl _ _ | apply Ch.drew | apply Ch.alloc)) id id) (by simp; omega) HRA.out (by omega)).mono ?_; rintro e w5 ⟨rfl, hrd5, hch⟩))
                  have HR5 := Lib.hid hrd5
                  have hsz5 := hch.size
                  simp only [World.size_drew, World.size_alloc] at hsz5
                  have HB5 : Hid (Below wc.heap.size wc w5) := Lib.hid (below_ch (HB.out.alloc HB.out.size _).drew hch (Nat.le_refl _) (fun i hi => by have := hi; omega))
                  clear hrd5 hch HRD HB
                  go_wp2_with (go_at_call 25; refine (left_of b r _ 0 w5 lr HR5.out HLR.out).mono ?_; rintro e w6 ⟨rfl, rfl⟩)
                  go_roundw
                  case rel => exact ⟨k + 1, by omega, by go_num, lr, rfl, HLR, by omega, HR5, HB5, by omega⟩
                  case measure => simp [intOf]; omega
                · have hs1 : ¬ selI xw = 0 := by omega
                  have hone : laidOne (xw, xx) = beF (xx % 4294967296) 4 := by unfold laidOne; rw [if_neg hs1, if_pos hsel]
                  rw [hone] at hrd hlen
                  rw [beF_length] at hlen
                  obtain ⟨lr, hlr⟩ : ∃ lr, lr = (laidAll (q.drop (k + 1)) ++ p).length := ⟨_, rfl⟩
                  rw [← hlr, Nat.add_comm] at hlen
                  subst hlen
                  have HLR := Lib.hid hlr
                  have HRD := Lib.hid hrd
                  have hts : (IntKind.u64.wrap xw).tmod 3 = 1 := hsel
                  have hbl : b < wr.heap.size := HR.out.lt
                  clear hlr hrd hone hsn HL HR hsel hs1
                  go_wp2_with fail
                  go_region_held3 (fun w' => w'.cell? ⟨wr.heap.size, 0 + 1, none⟩ = some (.int .u64 xx)) (first | (refine (hch.cell (by simp) (by simp; omega)).trans ?_; simp [go_sem]; done) | go_keep) ((go_at_call 22; refine (u32_be b r (xx % 4294967296) _ _ (HRD.out.keep (S := fun _ => False) (by repeat (first | exact Ch.refl _ _ | apply Ch.drew | apply Ch.alloc)) id id) (by simp; omega) HRA.out (by omega)).mono ?_; rintro e w5 ⟨rfl, hrd5, hch⟩))
                  have HR5 := Lib.hid hrd5
                  have hsz5 := hch.size
                  simp only [World.size_drew, World.size_alloc] at hsz5
                  have HB5 : Hid (Below wc.heap.size wc w5) := Lib.hid (below_ch (HB.out.alloc HB.out.size _).drew hch (Nat.le_refl _) (fun i hi => by have := hi; omega))
                  clear hrd5 hch HRD HB
                  go_wp2_with (go_at_call 25; refine (left_of b r _ 0 w5 lr HR5.out HLR.out).mono ?_; rintro e w6 ⟨rfl, rfl⟩)
                  go_roundw
                  case rel => exact ⟨k + 1, by omega, by go_num, lr, rfl, HLR, by omega, HR5, HB5, by omega⟩
                  case measure => simp [intOf]; omega
                · have hs1 : ¬ selI xw = 0 := by omega
                  have hs2 : ¬ selI xw = 1 := by omega
                  have hone : laidOne (xw, xx) = beF xx 8 := by unfold laidOne; rw [if_neg hs1, if_neg hs2]
                  rw [hone] at hrd hlen
                  rw [beF_length] at hlen
                  obtain ⟨lr, hlr⟩ : ∃ lr, lr = (laidAll (q.drop (k + 1)) ++ p).length := ⟨_, rfl⟩
                  rw [← hlr, Nat.add_comm] at hlen
                  subst hlen
                  have HLR := Lib.hid hlr
                  have HRD := Lib.hid hrd
                  have hts : (IntKind.u64.wrap xw).tmod 3 = 2 := hsel
                  have hbl : b < wr.heap.size := HR.out.lt
                  clear hlr hrd hone hsn HL HR hsel hs1 hs2
                  go_wp2_with fail
                  go_region_held3 (fun w' => w'.cell? ⟨wr.heap.size, 0 + 1, none⟩ = some (.int .u64 xx)) (first | (refine (hch.cell (by simp) (by simp; omega)).trans ?_; simp [go_sem]; done) | go_keep) ((go_at_call 23; refine (u64_be b r xx _ _ (HRD.out.keep (S := fun _ => False) (by repeat (first | exact Ch.refl _ _ | apply Ch.drew | apply Ch.alloc)) id id) (by simp; omega) HRA.out HX.out).mono ?_; rintro e w5 ⟨rfl, hrd5, hch⟩))
                  have HR5 := Lib.hid hrd5
                  have hsz5 := hch.size
                  simp only [World.size_drew, World.size_alloc] at hsz5
                  have HB5 : Hid (Below wc.heap.size wc w5) := Lib.hid (below_ch (HB.out.alloc HB.out.size _).drew hch (Nat.le_refl _) (fun i hi => by have := hi; omega))
                  clear hrd5 hch HRD HB
                  go_wp2_with (go_at_call 25; refine (left_of b r _ 0 w5 lr HR5.out HLR.out).mono ?_; rintro e w6 ⟨rfl, rfl⟩)
                  go_roundw
                  case rel => exact ⟨k + 1, by omega, by go_num, lr, rfl, HLR, by omega, HR5, HB5, by omega⟩
                  case measure => simp [intOf]; omega
              · obtain rfl : k = q.length := by omega
                have e1 : laidAll (q.drop q.length) ++ p = p := by simp [laidAll]
                rw [e1] at HR HL
                have HR2 := HR
                have hlf2 : lf = p.length := HL.out
                subst hlf2
                have hp5 := Lib.hid (hp3)
                have hbl : b < wr.heap.size := HR.out.lt
                clear HCe HQ hp3 HR2 HL
                go_wp2_with fail
                refine (raw_of b r p 0 p.length wr [] 0 p p.length HR.out hrl (by omega) (by rw [takeF_ok (Nat.le_refl _)]; simp) rfl).mono ?_
                rintro e w5 ⟨ao5, c5, rfl, hown5, hrd5, hch5⟩
                have HS5 := Lib.hid (Sl.of_owns hown5)
                have HB5 : Hid (Below wc.heap.size wc w5) := Lib.hid (below_ch HB.out hch5 (Nat.le_refl _) (fun i hi => by have := hi; omega))
                have HR5 := Lib.hid hrd5
                have HP5 := Lib.hid (HPc.out.below HB5.out (Nat.le_refl _))
                clear hown5 hrd5 hch5 HB HR
                go_wp2_with fail
                refine (bytesEqual_of _ _ p p w5 true HS5.out HP5.out hp5.out hp5.out (by simp)).mono ?_
                rintro e w6 ⟨rfl, rfl⟩
                go_wp2_with fail
                refine (left_of b r [] 0 w5 0 HR5.out rfl).mono ?_
                rintro e w6 ⟨rfl, rfl⟩
                go_wp2_with fail
                refine (err_any b r [] 0 w5 HR5.out).mono ?_
                rintro e w6 ⟨rfl, rfl⟩
                go_wp2
                go_ret
                exact ⟨rfl, hB.out.trans (HB5.out.mono hB.out.size)⟩
end Go.Proofs.Ytpchiokeckaacaa
