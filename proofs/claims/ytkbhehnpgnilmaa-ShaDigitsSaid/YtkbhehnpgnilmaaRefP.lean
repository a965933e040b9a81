/-
  The reference's Parse, walked. Conditions: none.
-/
import Derived.Test.YtkbhehnpgnilmaaRefT
namespace Go.Proofs.Ytkbhehnpgnilmaa
open Go Go.RowKit

theorem idTo_pair (bs : List Int) (k : Nat) : (idTo bs (2 * k)).set k (16 * hexD (bs.getD (2 * k) 0) + hexD (bs.getD (2 * k + 1) 0)) = idTo bs (2 * (k + 1)) := by
  apply List.ext_getElem
  · simp [idTo_length]
  · intro i h1 h2
    have hi : i < 32 := by rwa [idTo_length] at h2
    rw [List.getElem_set, idTo_get _ _ _ hi, idTo_get _ _ _ hi]
    by_cases he : k = i
    · subst he; rw [if_pos rfl, if_pos (by omega)]
    · rw [if_neg he]
      by_cases h : i < k
      · rw [if_pos (by omega), if_pos (by omega)]
      · rw [if_neg (by omega), if_neg (by omega), if_neg (by omega), if_neg (by omega)]

/-- which number's two digits these are -/
theorem pair_hit (a b c : Int) (h0 : 0 ≤ c) (h1 : c < 256) : (a = signL (c / 16) ∧ b = signL (c % 16)) ↔ (isHex a = true ∧ isHex b = true ∧ c = 16 * hexD a + hexD b) := by
  constructor
  · rintro ⟨rfl, rfl⟩
    have k1 := hexD_sign (n := c / 16) (by omega)
    have k2 := hexD_sign (n := c % 16) (by omega)
    exact ⟨k1.1, k2.1, by rw [k1.2, k2.2]; omega⟩
  · rintro ⟨ha, hb, hc⟩
    have b1 := hexD_bd ha
    have b2 := hexD_bd hb
    have e1 : c / 16 = hexD a := by omega
    have e2 : c % 16 = hexD b := by omega
    rw [e1, e2, sign_hexD ha, sign_hexD hb]
    exact ⟨rfl, rfl⟩

theorem run_index_str {P : Program} {w : World} {t : TypeId} (s : ByteArray) (i : Nat) (h : P.underlying t = some .string) (hi : i < s.size) :
    (Instr.index t (.string s) (.int .i64 i)).run P w = .ok (.int .u8 ((ints s).getD i 0)) w := by
  have hn : (0 ≤ (i : Int) ∧ (i : Int) < (s.size : Int)) := by omega
  rw [ints_getD s i hi]
  simp [Instr.index, run_underlying h, asIntOf, hn, hi, go_sem]

/-- what the reference's Parse says -/
def RParseP (w : World) (id : List Int) (ok : Bool) (en : Ending) (w' : World) : Prop := en = .returned (.tuple #[.agg (ofK .u8 id).toArray, .bool ok]) ∧ Below w.heap.size w w'

set_option maxRecDepth 100000 in
set_option maxHeartbeats 2000000 in
theorem rparse_any (s : ByteArray) (id : List Int) (e : Int) (w : World) (hp : parseF (ints s) = (id, e)) : Calls Try.prog 26 #[.string s] w (RParseP w id (e == 0)) := by
  obtain ⟨Z, hZ⟩ : ∃ Z, Z = List.replicate 32 (0 : Int) := ⟨_, rfl⟩
  have HZ := Lib.hid hZ
  have HF := Lib.hid hp
  have HS2 := Lib.hid (show ∀ xs : List Int, xs.length = 32 → (Try.prog.info? 23).map (·.size) = some (ofK .u8 xs).length from fun xs hx => by rw [length_ofK, hx]; kernel_rfl)
  have HB := Lib.hid (show Blk ((w.alloc (.cells (ofK .u8 Z).toArray 23)).alloc (.cells (ofK .u8 Z).toArray 23)) w.heap.size 23 (ofK .u8 Z) ∧ Blk ((w.alloc (.cells (ofK .u8 Z).toArray 23)).alloc (.cells (ofK .u8 Z).toArray 23)) (w.heap.size + 1) 23 (ofK .u8 Z) ∧
      Below w.heap.size w ((w.alloc (.cells (ofK .u8 Z).toArray 23)).alloc (.cells (ofK .u8 Z).toArray 23)) from by
    have h1 := Blk.new w (ofK .u8 Z) 23
    have h2 := Blk.new (w.alloc (.cells (ofK .u8 Z).toArray 23)) (ofK .u8 Z) 23
    rw [World.size_alloc] at h2
    exact ⟨h1.alloc _, h2, (((Below.refl _ w).alloc (Nat.le_refl _) _).alloc (by simp) _)⟩)
  rw [HZ.out] at HB
  clear hZ hp
  by_cases hs : s.size = 64
  · have hg : ((s.size : Int) != 64) = false := by rw [hs]; rfl
    have HS := Lib.hid hs
    have HI0 := Lib.hid (idTo_zero (ints s))
    clear hs
    go_enter Try.func26, Try.ntmps26
    go_wp2_with fail
    go_loopw [12] (fun i wr => ∃ k : Nat, k ≤ 32 ∧ i = .int .i64 k ∧ Hid (∀ j, j < 2 * k → isHex ((ints s).getD j 0) = true) ∧ Hid (Blk wr w.heap.size 23 (ofK .u8 (List.replicate 32 0))) ∧ Hid (Blk wr (w.heap.size + 1) 23 (ofK .u8 (idTo (ints s) (2 * k)))) ∧ Hid (Below w.heap.size w wr)) (fun i _ => 32 - (intOf i).toNat)
    case atStart => exact ⟨0, by omega, rfl, Lib.hid (fun j h => absurd h (by omega)), Lib.hid HB.out.1, Lib.hid (by rw [Nat.mul_zero, HI0.out]; exact HB.out.2.1), Lib.hid HB.out.2.2⟩
    case round =>
      clear HB HI0
      obtain ⟨k, hk, rfl, HH, HR, HD, HW⟩ := hrel
      by_cases hlt : k < 32
      · obtain ⟨a, ha⟩ : ∃ a, a = (ints s).getD (2 * k) 0 := ⟨_, rfl⟩
        obtain ⟨b, hb⟩ : ∃ a, a = (ints s).getD (2 * k + 1) 0 := ⟨_, rfl⟩
        have hix : ∀ w, (Instr.index 9 (.string s) (.int .i64 (2 * (k : Int)))).run Try.prog w = .ok (.int .u8 a) w := fun w => by
          have := run_index_str (P := Try.prog) (w := w) s (2 * k) Try.underlying9 (by rw [HS.out]; omega)
          rw [ha]; exact this
        have hiy : ∀ w, (Instr.index 9 (.string s) (.int .i64 (2 * (k : Int) + 1))).run Try.prog w = .ok (.int .u8 b) w := fun w => by
          have := run_index_str (P := Try.prog) (w := w) s (2 * k + 1) Try.underlying9 (by rw [HS.out]; omega)
          rw [hb]; exact this
        obtain ⟨hit, hhit⟩ : ∃ t : Bool, t = (isHex a && isHex b) := ⟨_, rfl⟩
        obtain ⟨v, hv⟩ : ∃ v, v = 16 * hexD a + hexD b := ⟨_, rfl⟩
        have HV := Lib.hid (show hit = true → 0 ≤ v ∧ v < 256 from fun h => by
          rw [hhit, Bool.and_eq_true] at h
          have h1 := hexD_bd h.1
          have h2 := hexD_bd h.2
          omega)
        have HA := Lib.hid (And.intro ha (And.intro hb (And.intro hhit hv)))
        have HP2 := Lib.hid (idTo_pair (ints s) k)
        have hk0 : (k : Int) < 32 := by omega
        have hk1 : (0 : Int) ≤ (k : Int) := by omega
        have hm1 : IntKind.i64.wrap (2 * (k : Int)) = 2 * (k : Int) := IntWalk.i64_in _ (by omega)
        have hm2 : IntKind.i64.wrap (2 * (k : Int) + 1) = 2 * (k : Int) + 1 := IntWalk.i64_in _ (by omega)
        clear ha hb hhit hv
        go_wp2_with fail
        go_loopw [15, 6] (fun c t wr => ∃ m : Nat, m ≤ 256 ∧ c = .int .i64 m ∧ t = .bool (hit && decide (v < (m : Int))) ∧ Hid (Blk wr w.heap.size 23 (ofK .u8 (List.replicate 32 0))) ∧ Hid (Blk wr (w.heap.size + 1) 23 (ofK .u8 (if (hit && decide (v < (m : Int))) = true then idTo (ints s) (2 * (k + 1)) else idTo (ints s) (2 * k)))) ∧ Hid (Below w.heap.size w wr)) (fun c _ _ => 256 - (intOf c).toNat)
        case atStart =>
          have h0 : (hit && decide (v < ((0 : Nat) : Int))) = false := by
            cases hh : hit
            · rfl
            · have := (HV.out hh).1; simp; omega
          exact ⟨0, by omega, rfl, by rw [h0], HR, Lib.hid (by rw [h0]; exact HD.out), HW⟩
        case round =>
          clear HR HD HW
          obtain ⟨m, hm, rfl, rfl, HR, HD, HW⟩ := hrel
          by_cases hml : m < 256
          · skip
            obtain ⟨y, hy⟩ : ∃ y, y = (m : Int) / 16 := ⟨_, rfl⟩
            obtain ⟨z, hz⟩ : ∃ y, y = (m : Int) % 16 := ⟨_, rfl⟩
            obtain ⟨p, hp⟩ : ∃ p, p = signL y := ⟨_, rfl⟩
            obtain ⟨q, hq2⟩ : ∃ p, p = signL z := ⟨_, rfl⟩
            have hyb : 0 ≤ y ∧ y < 16 := by omega
            have hzb : 0 ≤ z ∧ z < 16 := by omega
            have hc1 := fun w => rsign_any y w hyb.1 hyb.2
            have hc2 := fun w => rsign_any z w hzb.1 hzb.2
            rw [← hp] at hc1
            rw [← hq2] at hc2
            have HPH := pair_hit a b m (by omega) (by omega)
            rw [← hy, ← hz, ← hp, ← hq2] at HPH
            have HH2 := Lib.hid (show (a = p ∧ b = q) ↔ (hit = true ∧ v = (m : Int)) from by
              rw [HPH, HA.out.2.2.1, Bool.and_eq_true, HA.out.2.2.2]
              exact ⟨fun h => ⟨⟨h.1, h.2.1⟩, h.2.2.symm⟩, fun h => ⟨h.1.1, h.1.2, h.2.symm⟩⟩)
            have hq : Int.tdiv (m : Int) 16 = y := by rw [hy]; exact Int.tdiv_eq_ediv_of_nonneg (by omega)
            have hr : Int.tmod (m : Int) 16 = z := by rw [hz]; exact Int.tmod_eq_emod_of_nonneg (by omega)
            have hwm : IntKind.u8.wrap (m : Int) = (m : Int) := by rw [IntKind.wrap_u8]; omega
            have hwy : IntKind.u8.wrap y = y := by rw [IntKind.wrap_u8]; omega
            have hwz : IntKind.u8.wrap z = z := by rw [IntKind.wrap_u8]; omega
            have hm0 : (m : Int) < 256 := by omega
            have HKEEP := Lib.hid (show ¬ (a = p ∧ b = q) → (hit && decide (v < ((m + 1 : Nat) : Int))) = (hit && decide (v < (m : Int))) from fun h => by
              rw [HH2.out] at h
              cases hh : hit
              · rfl
              · have hne : v ≠ (m : Int) := fun e => h ⟨hh, e⟩
                exact congrArg (true && ·) (decide_eq_decide.2 (by omega)))
            have hq3 : (m : Int) / 16 = y := hy.symm
            have hr3 : (m : Int) % 16 = z := hz.symm
            clear HPH hy hz hp hq2 hyb hzb
            by_cases hA : a = p
            · have hAb : (a == p) = true := by simpa using hA
              by_cases hB : b = q
              · have hBb : (b == q) = true := by simpa using hB
                obtain ⟨hh1, hh2⟩ := HH2.out.1 ⟨hA, hB⟩
                subst hh1
                subst hh2
                have HD1 := Lib.hid (show Blk wr (w.heap.size + 1) 23 (ofK .u8 (idTo (ints s) (2 * k))) by simpa using HD.out)
                have hcell := HD1.out.cell k
                have hkl : k < (ofK .u8 (idTo (ints s) (2 * k))).length := by rw [length_ofK, idTo_length]; omega
                rw [List.getElem?_eq_getElem hkl] at hcell
                have hfree := HD1.out.free k
                have HP3 := Lib.hid (show (ofK .u8 (idTo (ints s) (2 * k))).set k (.int .u8 (m : Int)) = ofK .u8 (idTo (ints s) (2 * (k + 1))) by
                  rw [← HP2.out, ← HA.out.1, ← HA.out.2.1, ← HA.out.2.2.2]
                  unfold ofK
                  rw [List.map_set])
                clear hA hB HH2 HKEEP HD HP2
                go_wp2_with fail
                go_quiet ((first | (go_at_call_of 87 (Value.int IntKind.u8 y); exact Calls.quiet_of_same (hc1 _)) | (go_at_call_of 87 (Value.int IntKind.u8 z); exact Calls.quiet_of_same (hc2 _))))
                go_wp2_with fail
                have hsm := (Sm.refl wr).drewN
                go_roundw
                case rel => exact ⟨m + 1, by omega, by go_num, by simp; omega, Lib.hid (((hsm _).blk HR.out).keep (Ch.set _ _ _) (fun h => by have h2 : w.heap.size = w.heap.size + 1 := h; omega)), Lib.hid (by rw [if_pos (by simp; omega), ← HP3.out]; exact ((hsm _).blk HD1.out).set k _), Lib.hid (below_ch (HW.out.trans ((hsm _).below _)) (Ch.set _ _ _) (Nat.le_refl _) (fun k h => by have h2 : k = w.heap.size + 1 := h; omega))⟩
                case measure => simp [intOf]; omega
              · have hBb : (b == q) = false := by simpa using hB
                have HK := Lib.hid (HKEEP.out (fun h => hB h.2))
                clear hA hB HH2 HKEEP
                go_wp2_with fail
                go_quiet ((first | (go_at_call_of 87 (Value.int IntKind.u8 y); exact Calls.quiet_of_same (hc1 _)) | (go_at_call_of 87 (Value.int IntKind.u8 z); exact Calls.quiet_of_same (hc2 _))))
                go_wp2_with fail
                go_roundw
                case rel => exact ⟨m + 1, by omega, by go_num, by rw [HK.out], Lib.hid (((Sm.refl _).drewN _).blk HR.out), Lib.hid (by rw [HK.out]; exact ((Sm.refl _).drewN _).blk HD.out), Lib.hid (HW.out.trans (((Sm.refl _).drewN _).below _))⟩
                case measure => simp [intOf]; omega
            · have hAb : (a == p) = false := by simpa using hA
              have HK := Lib.hid (HKEEP.out (fun h => hA h.1))
              clear hA HH2 HKEEP
              go_wp2_with fail
              go_quiet ((first | (go_at_call_of 87 (Value.int IntKind.u8 y); exact Calls.quiet_of_same (hc1 _)) | (go_at_call_of 87 (Value.int IntKind.u8 z); exact Calls.quiet_of_same (hc2 _))))
              go_wp2_with fail
              go_roundw
              case rel => exact ⟨m + 1, by omega, by go_num, by rw [HK.out], Lib.hid (((Sm.refl _).drewN _).blk HR.out), Lib.hid (by rw [HK.out]; exact ((Sm.refl _).drewN _).blk HD.out), Lib.hid (HW.out.trans (((Sm.refl _).drewN _).below _))⟩
              case measure => simp [intOf]; omega
          · obtain rfl : m = 256 := by omega
            cases hh : hit
            · subst hh
              have HX := Lib.hid (show id = List.replicate 32 0 ∧ e = 130 by
                have := HF.out
                unfold parseF at this
                rw [if_neg (by
                  rintro ⟨h1, h2⟩
                  have g1 := all_getD h2 (2 * k) (by omega)
                  have g2 := all_getD h2 (2 * k + 1) (by omega)
                  have g3 := HA.out.2.2.1
                  rw [HA.out.1, HA.out.2.1, g1, g2] at g3
                  cases g3)] at this
                exact ⟨(Prod.mk.inj this).1.symm, (Prod.mk.inj this).2.symm⟩)
              clear HF HA HH HP2 HV hix hiy
              go_wp2_with (refine wpList_store_blk _ rfl 23 (.tmp 2) (.tmp 46) rfl w.heap.size 23 (ofK .u8 (List.replicate 32 0)) (ofK .u8 (List.replicate 32 0)) HR.out rfl rfl rfl (HS2.out _ List.length_replicate) (one_ofK _ _) ?_; intro w7 hb7 hch7 hsz7)
              have HW7 := below_ch HW.out hch7 (Nat.le_refl _) (fun k h => by have h2 : k = w.heap.size := h; omega)
              refine bodyPost_ret (v := .tuple #[.agg (ofK .u8 (List.replicate 32 0)).toArray, .bool false]) ?_ rfl ⟨by rw [HX.out.1, HX.out.2]; rfl, HW7⟩
              exact results_blk_tmp Try.results26 _ _ w.heap.size _ _ rfl hb7 _ Try.underlying23 rfl (HS2.out _ List.length_replicate) _ rfl
            · have hv2 := (HV.out hh).2
              subst hh
              have HD1 := Lib.hid (show Blk wr (w.heap.size + 1) 23 (ofK .u8 (idTo (ints s) (2 * (k + 1)))) by
                have := HD.out
                rwa [if_pos (by simpa using hv2)] at this)
              have HH3 := Lib.hid (show ∀ j, j < 2 * (k + 1) → isHex ((ints s).getD j 0) = true from fun j hj => by
                have g := HA.out.2.2.1.symm
                rw [Bool.and_eq_true] at g
                by_cases h1 : j < 2 * k
                · exact HH.out j h1
                · by_cases h2 : j = 2 * k
                  · rw [h2, ← HA.out.1]; exact g.1
                  · rw [show j = 2 * k + 1 by omega, ← HA.out.2.1]; exact g.2)
              clear HA HH HP2 HV hix hiy HD hm1 hm2
              have hwk : IntKind.i64.wrap ((k : Int) + 1) = (k : Int) + 1 := IntWalk.i64_in _ (by omega)
              go_wp2_with fail
              go_roundw
              case rel => exact ⟨k + 1, by omega, by go_num, HH3, HR, HD1, HW⟩
              case measure => simp [intOf]; omega
      · obtain rfl : k = 32 := by omega
        have HX := Lib.hid (show id = idTo (ints s) 64 ∧ e = 0 by
          have := HF.out
          unfold parseF at this
          rw [if_pos ⟨by rw [ints_length, HS.out], by
            rw [List.all_eq_true]
            intro c hc
            obtain ⟨j, hj, rfl⟩ := List.getElem_of_mem hc
            have h1 := HH.out j (by rw [ints_length, HS.out] at hj; omega)
            rwa [List.getD_eq_getElem?_getD, List.getElem?_eq_getElem hj] at h1⟩] at this
          exact ⟨(Prod.mk.inj this).1.symm, (Prod.mk.inj this).2.symm⟩)
        obtain ⟨out, hout⟩ : ∃ out, out = idTo (ints s) 64 := ⟨_, rfl⟩
        have hol : out.length = 32 := by rw [hout, idTo_length]
        have HD1 := Lib.hid (show Blk wr (w.heap.size + 1) 23 (ofK .u8 out) by rw [hout]; exact HD.out)
        have HE := Lib.hid (show id = out ∧ e = 0 by rw [hout]; exact HX.out)
        have HO := Lib.hid (show (ofK .u8 out).length = (ofK .u8 (List.replicate 32 0)).length by rw [length_ofK, length_ofK, hol, List.length_replicate])
        have HO2 := Lib.hid (HS2.out out hol)
        clear hout HX HF HD HH hol
        go_wp2_with (first
          | (refine wpList_load_blk _ rfl 23 (.tmp 4) rfl (w.heap.size + 1) 23 (ofK .u8 out) HD1.out rfl _ Try.underlying23 rfl HO2.out ?_)
          | (refine wpList_store_blk _ rfl 23 (.tmp 2) (.tmp 48) rfl w.heap.size 23 (ofK .u8 (List.replicate 32 0)) (ofK .u8 out) HR.out rfl rfl HO.out HO2.out (one_ofK _ _) ?_; intro w7 hb7 hch7 hsz7))
        have HW7 := below_ch HW.out hch7 (Nat.le_refl _) (fun k h => by have h2 : k = w.heap.size := h; omega)
        refine bodyPost_ret (v := .tuple #[.agg (ofK .u8 out).toArray, .bool true]) ?_ rfl ⟨by rw [HE.out.1, HE.out.2]; rfl, HW7⟩
        exact results_blk_tmp Try.results26 _ _ w.heap.size _ _ rfl hb7 _ Try.underlying23 rfl HO2.out _ rfl
  · have hg : ((s.size : Int) != 64) = true := by simp; omega
    have HX := Lib.hid (show id = List.replicate 32 0 ∧ e = 130 by
      have := HF.out
      unfold parseF at this
      rw [if_neg (by rintro ⟨h1, _⟩; rw [ints_length] at h1; exact hs h1)] at this
      exact ⟨(Prod.mk.inj this).1.symm, (Prod.mk.inj this).2.symm⟩)
    rw [HX.out.1, HX.out.2]
    clear hs HX HF
    go_enter Try.func26, Try.ntmps26
    go_wp2_with (first
        | (refine wpList_load_blk _ rfl 23 (.tmp 4) rfl (w.heap.size + 1) 23 (ofK .u8 (List.replicate 32 0)) HB.out.2.1 rfl _ Try.underlying23 rfl (HS2.out _ List.length_replicate) ?_)
        | (refine wpList_store_blk _ rfl 23 (.tmp 2) (.tmp 11) rfl w.heap.size 23 (ofK .u8 (List.replicate 32 0)) (ofK .u8 (List.replicate 32 0)) HB.out.1 rfl rfl rfl (HS2.out _ List.length_replicate) (one_ofK _ _) ?_; intro w7 hb7 hch7 hsz7))
    have HW7 := below_ch HB.out.2.2 hch7 (Nat.le_refl _) (fun k h => by have h2 : k = w.heap.size := h; omega)
    refine bodyPost_ret (v := .tuple #[.agg (ofK .u8 (List.replicate 32 0)).toArray, .bool false]) ?_ rfl ⟨rfl, HW7⟩
    exact results_blk_tmp Try.results26 _ _ w.heap.size _ _ rfl hb7 _ Try.underlying23 rfl (HS2.out _ List.length_replicate) _ rfl

end Go.Proofs.Ytkbhehnpgnilmaa
