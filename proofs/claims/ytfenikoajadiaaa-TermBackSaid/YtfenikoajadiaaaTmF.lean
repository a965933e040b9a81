/-
  Layer 5: term.put, Encode, walked. Conditions: a term that may be; at most a million bytes.
-/
import Derived.Test.YtfenikoajadiaaaTmE
import Derived.Test.YtfenikoajadiaaaCmp
namespace Go.Proofs.Ytfenikoajadiaaa
open Go Go.RowKit
set_option linter.unusedSimpArgs false
set_option linter.unusedVariables false


def PutP (w : World) (base : Nat) (v : Value) (z : List Int) (e : Ending) (w' : World) : Prop := ∃ ao c, e = .returned (.slice ao z.length c) ∧ w'.ownsRow base 5 1 (.slice ao z.length c) z.length (ofK .u8 z) ∧ Gw w w' v (.slice ao z.length c)
theorem wrap_u8 {x : Int} (h : 0 ≤ x ∧ x ≤ 255) : IntKind.u8.wrap x = x := by rw [IntKind.wrap_u8]; omega

set_option maxRecDepth 100000 in
set_option maxHeartbeats 8000000 in
theorem put_any : ∀ (t : Tm) (cs : List Value) (F : Nat → Prop) (base : Nat) (v : Value) (xs : List Int) (w : World), okT t = true → TmC F w cs t → (∀ j, F j → v.ownBlock ≠ some j) → base ≤ w.heap.size → w.ownsRow base 5 1 v xs.length (ofK .u8 xs) → (xs ++ bytesT t).length ≤ 1000000 →
    Calls Try.prog 46 #[v, .agg cs.toArray] w (PutP w base v (xs ++ bytesT t)) := by
  refine Tm.ind fun k u n s ks ih cs F0 base v xs w hok ht hF0 hbase hrow hlen => ?_
  obtain ⟨F, hF, ht⟩ : ∃ F : Nat → Prop, (∀ j, F j → v.ownBlock ≠ some j ∧ j < w.heap.size) ∧ TmC F w cs (.mk k u n s ks) := ⟨_, fun j hj => ⟨hF0 j hj.1, hj.2⟩, TmC.old' _ _ ht⟩
  obtain ⟨ao, c, rfl, hmc, hcm, hsl⟩ := ht.shape
  simp only [Tm.k, Tm.u, Tm.n, Tm.s, Tm.ks] at hmc hsl ⊢
  obtain ⟨va, vc, rfl⟩ := own_shape hrow
  rw [okT, Bool.and_eq_true] at hok
  have HP := plainB_iff.1 hok.1
  have HIH := Lib.hid (show ∀ t ∈ ks, okT t = true ∧ _ from fun t ht => ⟨okTL_iff.1 hok.2 t ht, ih t ht⟩)
  have HF := Lib.hid hF
  have hk8 : IntKind.u8.wrap k = k := wrap_u8 (by have := HP.pk; omega)
  have hs8 : IntKind.u8.wrap (s.size : Int) = (s.size : Int) := wrap_u8 (by have := HP.ps; omega)
  have HPU := Lib.hid HP.pu
  have HPN := Lib.hid HP.pn
  rw [bytesT] at hlen ⊢
  obtain ⟨bT, hbT⟩ : ∃ b, hasB k 1 = b := ⟨_, rfl⟩
  obtain ⟨bU, hbU⟩ : ∃ b, hasB k 2 = b := ⟨_, rfl⟩
  obtain ⟨bN, hbN⟩ : ∃ b, hasB k 4 = b := ⟨_, rfl⟩
  have HFD := Lib.hid (fields_any k)
  have HT := Lib.hid (has_any k 1 (by omega))
  have HU := Lib.hid (has_any k 2 (by omega))
  have HN := Lib.hid (has_any k 4 (by omega))
  rw [hbT] at HT hlen ⊢
  rw [hbU] at HU HPU hlen ⊢
  rw [hbN] at HN HPN hlen ⊢
  clear hbT hbU hbN hok ih hF0 HP
  obtain ⟨x1, hx1⟩ : ∃ x, xs ++ [k] = x := ⟨_, rfl⟩
  obtain ⟨y1, hy1⟩ : ∃ x, x1 ++ [(s.size : Int)] = x := ⟨_, rfl⟩
  obtain ⟨x2, hx2⟩ : ∃ x, (x1 ++ if bT = true then (s.size : Int) :: ints s else []) = x := ⟨_, rfl⟩
  obtain ⟨x3, hx3⟩ : ∃ x, (x2 ++ if bU = true then [u] else []) = x := ⟨_, rfl⟩
  obtain ⟨x4, hx4⟩ : ∃ x, (x3 ++ if bN = true then beF n 2 else []) = x := ⟨_, rfl⟩
  obtain ⟨Z, hz⟩ : ∃ x, xs ++ (headX k u n s bT bU bN ++ bytesTL ks) = x := ⟨_, rfl⟩
  have HZ := Lib.hid (show x4 ++ bytesTL ks = Z from by rw [← hz, ← hx4, ← hx3, ← hx2, ← hx1]; unfold headX; simp only [List.append_assoc])
  have HX1 := Lib.hid hx1
  have HY1 := Lib.hid hy1
  have HX2 := Lib.hid hx2
  have HX3 := Lib.hid hx3
  have HX4 := Lib.hid hx4
  rw [hz] at hlen ⊢
  have l4 : x4.length ≤ Z.length := by rw [← HZ.out, List.length_append]; omega
  have l3 : x3.length ≤ x4.length := by rw [← hx4, List.length_append]; omega
  have l2 : x2.length ≤ x3.length := by rw [← hx3, List.length_append]; omega
  have l1 : x1.length ≤ x2.length := by rw [← hx2, List.length_append]; omega
  have HL := Lib.hid (show Z.length ≤ 1000000 ∧ x4.length ≤ 1000000 ∧ x3.length ≤ 1000000 ∧ x2.length ≤ 1000000 ∧ x1.length ≤ 1000000 from ⟨hlen, by omega, by omega, by omega, by omega⟩)
  clear hx1 hy1 hx2 hx3 hx4 hz l1 l2 l3 l4 hlen
  obtain ⟨m, hm⟩ : ∃ m, ks.length = m := ⟨_, rfl⟩
  have HM := Lib.hid hm
  rw [hm] at hsl hmc ⊢
  have hm63 : m ≤ 9223372036854775807 := by unfold maxLen at hcm; omega
  have HSL := Lib.hid hsl
  have HROW := Lib.hid hrow
  have HBASE := Lib.hid hbase
  obtain ⟨f, hf⟩ : ∃ f, fieldsF k = f := ⟨_, rfl⟩
  rw [hf] at HFD HT HU HN
  clear hf ht hrow hsl hm hmc hcm hF hbase
  go_enter Try.func46, Try.ntmps46
  go_wp2_with (first
    | ((with_reducible refine wpList_box_blk w rfl 24 (.tmp 1) rfl (tmC k u n s (.slice ao m c)) rfl ?_); intro a1 hb hbel hsz; have I0 : PutI w base (.slice va xs.length vc) w.heap.size (tmC k u n s (.slice ao m c)) (.slice va xs.length vc) xs a1 := ⟨own_ch HROW.out (Ch.of_below (S := fun _ => False) hbel (Nat.le_refl _)) (fun _ _ h => h), hb, Nat.le_refl _, HBASE.out, Gw.below hbel, fun q hq e => by have := (HROW.out.lt q hq).2; omega⟩; have c0 := I0.box.cell 0; simp only [tmC, List.getElem?_cons_zero, List.getElem?_cons_succ] at c0; clear hb hbel hsz))
  refine (HFD.out a1).mono ?_
  rintro e' w' ⟨rfl, rfl⟩
  go_wp2_with (first
    | ((with_reducible refine wpList_slice_b1 a1 rfl (.tmp 14) rfl (c := k) rfl ?_); intro b1 hsl hbel; have S1 := Lib.hid hsl; have I1 := I0.below hbel; clear hsl hbel)
    | (at_builtin; (refine wpList_append_B (.tmp 11) (.tmp 15) rfl rfl I1 rfl rfl S1.out x1 HX1.out HL.out.2.2.2.2 ?_); intro o1 p1 b2 I2))
  refine (HT.out b2).mono ?_
  rintro e' w' ⟨rfl, rfl⟩
  clear c0
  cases bT
  · have e : x1 = x2 := by have h := HX2.out; simpa using h
    rw [e] at I2 ⊢
    clear e
    go_wp2_with fail
    refine (HU.out b2).mono ?_
    rintro e' w' ⟨rfl, rfl⟩
    cases bU
    · have e : x2 = x3 := by have h := HX3.out; simpa using h
      rw [e] at I2 ⊢
      clear e
      go_wp2_with fail
      refine (HN.out b2).mono ?_
      rintro e' w' ⟨rfl, rfl⟩
      cases bN
      · have e : x3 = x4 := by have h := HX4.out; simpa using h
        rw [e] at I2 ⊢
        clear e
        have c4 := I2.box.cell 4
        simp only [tmC, List.getElem?_cons_zero, List.getElem?_cons_succ] at c4
        go_wp2_with fail
        clear c4
        go_loopw [0, 47] (fun q i wr => ∃ (j : Nat) (oz : Option Addr) (pz : Nat) (z : List Int), q = .slice oz z.length pz ∧ i = .int .i64 j ∧ j ≤ m ∧ Hid (z ++ bytesTL (ks.drop j) = Z) ∧ PutI w base (.slice va xs.length vc) w.heap.size (tmC k u n s (.slice ao m c)) (.slice oz z.length pz) z wr) (fun _ i _ => m - (intOf i).toNat)
        case atStart => exact ⟨0, _, _, x4, rfl, rfl, Nat.zero_le _, Lib.hid (by rw [List.drop_zero]; exact HZ.out), I2⟩
        case round =>
          clear I2
          obtain ⟨j, oz, pz, z, rfl, rfl, hj, HQ, IR⟩ := hrel
          by_cases hlt : j < m
          · have hjk : j < ks.length := by rw [HM.out]; exact hlt
            have hjz : (j : Int) < (m : Int) := by omega
            have hj0 : (0 : Int) ≤ (j : Int) := by omega
            have HSW := Lib.hid (IR.subL HSL.out (fun j hj => (HF.out j hj).1))
            obtain ⟨b, o, csj, rfl, hFb, hbl, hra, htm⟩ := HSW.out.get hjk
            have HMEM := Lib.hid (List.getElem_mem hjk)
            have HDR := Lib.hid (List.drop_eq_getElem_cons hjk)
            generalize ks[j] = kj at htm HMEM HDR
            obtain ⟨aj, cj, rfl, -, -, -⟩ := htm.shape
            have HRA := Lib.hid hra
            have HTM := Lib.hid htm
            obtain ⟨z2, hz2⟩ : ∃ x, z ++ bytesT kj = x := ⟨_, rfl⟩
            have HZ2 := Lib.hid hz2
            have HQ2 := Lib.hid (show z2 ++ bytesTL (ks.drop (j + 1)) = Z from by have h := HQ.out; rw [HDR.out, bytesTL, ← List.append_assoc, hz2] at h; exact h)
            have HL2 := Lib.hid (show z2.length ≤ 1000000 from by have h1 := HL.out.1; rw [← HQ2.out, List.length_append] at h1; omega)
            clear hra htm hjk hFb hbl hz2
            go_wp2_with (first
    | (with_reducible refine wpList_load_any rfl 24 (.tmp 49) rfl b (o + j * 5) rfl (tmC kj.k kj.u kj.n kj.s (.slice aj kj.ks.length cj)) _ HRA.out Try.underlying24 rfl (tmC_info _ _ _ _ _) ?_)
    | ((with_reducible refine wpList_alloc_blk wr rfl 24 rfl (tmC 0 0 0 ⟨#[]⟩ (.slice none 0 0)) Try.zeroTm ?_); intro f1 hb hbel hsz; have HB1 := Lib.hid (And.intro hb hbel); clear hb hbel hsz)
    | ((with_reducible refine wpList_store_blk f1 rfl 24 (.tmp 7) (.tmp 50) rfl wr.heap.size 24 (tmC 0 0 0 ⟨#[]⟩ (.slice none 0 0)) (tmC kj.k kj.u kj.n kj.s (.slice aj kj.ks.length cj)) HB1.out.1 rfl rfl rfl (tmC_info _ _ _ _ _) (tmC_one _ _ _ _ _ _ _) ?_); intro f2 hb hc hs; have hbw : Below wr.heap.size wr f2 := below_ch HB1.out.2 hc (Nat.le_refl _) (fun k hk => by have e : k = wr.heap.size := hk; omega); have HB2 := Lib.hid (And.intro hb hbw); have IR2 := IR.below hbw; clear hb hc hs hbw)
    | (with_reducible refine wpList_load_any rfl 24 (.tmp 7) rfl wr.heap.size 0 rfl (tmC kj.k kj.u kj.n kj.s (.slice aj kj.ks.length cj)) _ (rangeW_blk HB2.out.1) Try.underlying24 rfl (tmC_info _ _ _ _ _) ?_))
            have hx := (HIH.out kj HMEM.out).2 _ F base (.slice oz z.length pz) z f2 (HIH.out kj HMEM.out).1 (HTM.out.below HB2.out.2) (fun j hj e => by have h1 := HF.out j hj; rcases IR.gw.at' j e with h2 | h2; exact h1.1 h2; omega) IR2.size IR2.row (by rw [HZ2.out]; exact HL2.out)
            rw [HZ2.out] at hx
            refine Calls.mono hx ?_
            clear hx
            rintro e' f3 ⟨oy, py, rfl, hrow, hgw⟩
            have IR3 := IR2.go hrow hgw
            clear hrow hgw
            go_wp2_with fail
            go_roundw
            case rel => exact ⟨j + 1, _, _, z2, rfl, by go_num, by omega, HQ2, IR3⟩
            case measure => simp [intOf]; omega
          · have hge : ¬ (j : Int) < (m : Int) := by omega
            have HE := Lib.hid (show z = Z from by rw [← HQ.out, List.drop_of_length_le (by rw [HM.out]; omega), bytesTL, List.append_nil])
            go_wp2_with fail
            go_ret
            exact ⟨oz, pz, by rw [HE.out]; rfl, by rw [← HE.out]; exact IR.row, by rw [← HE.out]; exact IR.gw⟩
      · have hb16 : 0 ≤ n ∧ n ≤ 65535 := by have h := HPN.out; simpa using h
        have hn16 : IntKind.u16.wrap n = n := by rw [IntKind.wrap_u16]; omega
        have HB16 := Lib.hid hb16
        clear hb16
        have c2 := I2.box.cell 2
        simp only [tmC, List.getElem?_cons_zero, List.getElem?_cons_succ] at c2
        go_wp2_with fail
        have hx := put16_any _ x3 n x4.length b2 (Sl.of_owns I2.row) (by have := HL.out.2.2.1; omega) HB16.out (by have h : x3 ++ beF n 2 = x4 := HX4.out; rw [← h, List.length_append, beF_length])
        refine Calls.mono hx ?_
        clear hx c2 hn16
        rintro e' d2 ⟨o4, p4, rfl, hrow, hb⟩
        have I1 := I2.go (v' := .slice o4 x4.length p4) (ys := x4) (by have h := own_low hrow I2.size; have e : x3 ++ beF n 2 = x4 := HX4.out; rw [e] at h; exact h) ⟨Ch.of_below hb (Nat.le_refl _), fun q hq => .inr ((hrow.lt q hq).1)⟩
        clear hrow hb
        have c4 := I1.box.cell 4
        simp only [tmC, List.getElem?_cons_zero, List.getElem?_cons_succ] at c4
        go_wp2_with fail
        clear c4
        go_loopw [0, 47] (fun q i wr => ∃ (j : Nat) (oz : Option Addr) (pz : Nat) (z : List Int), q = .slice oz z.length pz ∧ i = .int .i64 j ∧ j ≤ m ∧ Hid (z ++ bytesTL (ks.drop j) = Z) ∧ PutI w base (.slice va xs.length vc) w.heap.size (tmC k u n s (.slice ao m c)) (.slice oz z.length pz) z wr) (fun _ i _ => m - (intOf i).toNat)
        case atStart => exact ⟨0, _, _, x4, rfl, rfl, Nat.zero_le _, Lib.hid (by rw [List.drop_zero]; exact HZ.out), I1⟩
        case round =>
          clear I1
          obtain ⟨j, oz, pz, z, rfl, rfl, hj, HQ, IR⟩ := hrel
          by_cases hlt : j < m
          · have hjk : j < ks.length := by rw [HM.out]; exact hlt
            have hjz : (j : Int) < (m : Int) := by omega
            have hj0 : (0 : Int) ≤ (j : Int) := by omega
            have HSW := Lib.hid (IR.subL HSL.out (fun j hj => (HF.out j hj).1))
            obtain ⟨b, o, csj, rfl, hFb, hbl, hra, htm⟩ := HSW.out.get hjk
            have HMEM := Lib.hid (List.getElem_mem hjk)
            have HDR := Lib.hid (List.drop_eq_getElem_cons hjk)
            generalize ks[j] = kj at htm HMEM HDR
            obtain ⟨aj, cj, rfl, -, -, -⟩ := htm.shape
            have HRA := Lib.hid hra
            have HTM := Lib.hid htm
            obtain ⟨z2, hz2⟩ : ∃ x, z ++ bytesT kj = x := ⟨_, rfl⟩
            have HZ2 := Lib.hid hz2
            have HQ2 := Lib.hid (show z2 ++ bytesTL (ks.drop (j + 1)) = Z from by have h := HQ.out; rw [HDR.out, bytesTL, ← List.append_assoc, hz2] at h; exact h)
            have HL2 := Lib.hid (show z2.length ≤ 1000000 from by have h1 := HL.out.1; rw [← HQ2.out, List.length_append] at h1; omega)
            clear hra htm hjk hFb hbl hz2
            go_wp2_with (first
    | (with_reducible refine wpList_load_any rfl 24 (.tmp 49) rfl b (o + j * 5) rfl (tmC kj.k kj.u kj.n kj.s (.slice aj kj.ks.length cj)) _ HRA.out Try.underlying24 rfl (tmC_info _ _ _ _ _) ?_)
    | ((with_reducible refine wpList_alloc_blk wr rfl 24 rfl (tmC 0 0 0 ⟨#[]⟩ (.slice none 0 0)) Try.zeroTm ?_); intro f1 hb hbel hsz; have HB1 := Lib.hid (And.intro hb hbel); clear hb hbel hsz)
    | ((with_reducible refine wpList_store_blk f1 rfl 24 (.tmp 7) (.tmp 50) rfl wr.heap.size 24 (tmC 0 0 0 ⟨#[]⟩ (.slice none 0 0)) (tmC kj.k kj.u kj.n kj.s (.slice aj kj.ks.length cj)) HB1.out.1 rfl rfl rfl (tmC_info _ _ _ _ _) (tmC_one _ _ _ _ _ _ _) ?_); intro f2 hb hc hs; have hbw : Below wr.heap.size wr f2 := below_ch HB1.out.2 hc (Nat.le_refl _) (fun k hk => by have e : k = wr.heap.size := hk; omega); have HB2 := Lib.hid (And.intro hb hbw); have IR2 := IR.below hbw; clear hb hc hs hbw)
    | (with_reducible refine wpList_load_any rfl 24 (.tmp 7) rfl wr.heap.size 0 rfl (tmC kj.k kj.u kj.n kj.s (.slice aj kj.ks.length cj)) _ (rangeW_blk HB2.out.1) Try.underlying24 rfl (tmC_info _ _ _ _ _) ?_))
            have hx := (HIH.out kj HMEM.out).2 _ F base (.slice oz z.length pz) z f2 (HIH.out kj HMEM.out).1 (HTM.out.below HB2.out.2) (fun j hj e => by have h1 := HF.out j hj; rcases IR.gw.at' j e with h2 | h2; exact h1.1 h2; omega) IR2.size IR2.row (by rw [HZ2.out]; exact HL2.out)
            rw [HZ2.out] at hx
            refine Calls.mono hx ?_
            clear hx
            rintro e' f3 ⟨oy, py, rfl, hrow, hgw⟩
            have IR3 := IR2.go hrow hgw
            clear hrow hgw
            go_wp2_with fail
            go_roundw
            case rel => exact ⟨j + 1, _, _, z2, rfl, by go_num, by omega, HQ2, IR3⟩
            case measure => simp [intOf]; omega
          · have hge : ¬ (j : Int) < (m : Int) := by omega
            have HE := Lib.hid (show z = Z from by rw [← HQ.out, List.drop_of_length_le (by rw [HM.out]; omega), bytesTL, List.append_nil])
            go_wp2_with fail
            go_ret
            exact ⟨oz, pz, by rw [HE.out]; rfl, by rw [← HE.out]; exact IR.row, by rw [← HE.out]; exact IR.gw⟩
    · have hu8 : IntKind.u8.wrap u = u := wrap_u8 (by have h := HPU.out; simp at h; omega)
      have c1 := I2.box.cell 1
      simp only [tmC, List.getElem?_cons_zero, List.getElem?_cons_succ] at c1
      go_wp2_with (first
    | ((with_reducible refine wpList_slice_b1 b2 rfl (.tmp 34) rfl (c := u) rfl ?_); intro d3 hsl hbel; have S7 := Lib.hid hsl; have I5 := I2.below hbel; clear hsl hbel)
    | (at_builtin; (refine wpList_append_B (.tmp 31) (.tmp 35) rfl rfl I5 rfl rfl S7.out x3 (by have h := HX3.out; simpa using h) HL.out.2.2.1 ?_); intro o3 p3 d4 I6))
      clear c1 hu8
      go_wp2_with fail
      refine (HN.out d4).mono ?_
      rintro e' w' ⟨rfl, rfl⟩
      cases bN
      · have e : x3 = x4 := by have h := HX4.out; simpa using h
        rw [e] at I6 ⊢
        clear e
        have c4 := I6.box.cell 4
        simp only [tmC, List.getElem?_cons_zero, List.getElem?_cons_succ] at c4
        go_wp2_with fail
        clear c4
        go_loopw [0, 47] (fun q i wr => ∃ (j : Nat) (oz : Option Addr) (pz : Nat) (z : List Int), q = .slice oz z.length pz ∧ i = .int .i64 j ∧ j ≤ m ∧ Hid (z ++ bytesTL (ks.drop j) = Z) ∧ PutI w base (.slice va xs.length vc) w.heap.size (tmC k u n s (.slice ao m c)) (.slice oz z.length pz) z wr) (fun _ i _ => m - (intOf i).toNat)
        case atStart => exact ⟨0, _, _, x4, rfl, rfl, Nat.zero_le _, Lib.hid (by rw [List.drop_zero]; exact HZ.out), I6⟩
        case round =>
          clear I6
          obtain ⟨j, oz, pz, z, rfl, rfl, hj, HQ, IR⟩ := hrel
          by_cases hlt : j < m
          · have hjk : j < ks.length := by rw [HM.out]; exact hlt
            have hjz : (j : Int) < (m : Int) := by omega
            have hj0 : (0 : Int) ≤ (j : Int) := by omega
            have HSW := Lib.hid (IR.subL HSL.out (fun j hj => (HF.out j hj).1))
            obtain ⟨b, o, csj, rfl, hFb, hbl, hra, htm⟩ := HSW.out.get hjk
            have HMEM := Lib.hid (List.getElem_mem hjk)
            have HDR := Lib.hid (List.drop_eq_getElem_cons hjk)
            generalize ks[j] = kj at htm HMEM HDR
            obtain ⟨aj, cj, rfl, -, -, -⟩ := htm.shape
            have HRA := Lib.hid hra
            have HTM := Lib.hid htm
            obtain ⟨z2, hz2⟩ : ∃ x, z ++ bytesT kj = x := ⟨_, rfl⟩
            have HZ2 := Lib.hid hz2
            have HQ2 := Lib.hid (show z2 ++ bytesTL (ks.drop (j + 1)) = Z from by have h := HQ.out; rw [HDR.out, bytesTL, ← List.append_assoc, hz2] at h; exact h)
            have HL2 := Lib.hid (show z2.length ≤ 1000000 from by have h1 := HL.out.1; rw [← HQ2.out, List.length_append] at h1; omega)
            clear hra htm hjk hFb hbl hz2
            go_wp2_with (first
    | (with_reducible refine wpList_load_any rfl 24 (.tmp 49) rfl b (o + j * 5) rfl (tmC kj.k kj.u kj.n kj.s (.slice aj kj.ks.length cj)) _ HRA.out Try.underlying24 rfl (tmC_info _ _ _ _ _) ?_)
    | ((with_reducible refine wpList_alloc_blk wr rfl 24 rfl (tmC 0 0 0 ⟨#[]⟩ (.slice none 0 0)) Try.zeroTm ?_); intro f1 hb hbel hsz; have HB1 := Lib.hid (And.intro hb hbel); clear hb hbel hsz)
    | ((with_reducible refine wpList_store_blk f1 rfl 24 (.tmp 7) (.tmp 50) rfl wr.heap.size 24 (tmC 0 0 0 ⟨#[]⟩ (.slice none 0 0)) (tmC kj.k kj.u kj.n kj.s (.slice aj kj.ks.length cj)) HB1.out.1 rfl rfl rfl (tmC_info _ _ _ _ _) (tmC_one _ _ _ _ _ _ _) ?_); intro f2 hb hc hs; have hbw : Below wr.heap.size wr f2 := below_ch HB1.out.2 hc (Nat.le_refl _) (fun k hk => by have e : k = wr.heap.size := hk; omega); have HB2 := Lib.hid (And.intro hb hbw); have IR2 := IR.below hbw; clear hb hc hs hbw)
    | (with_reducible refine wpList_load_any rfl 24 (.tmp 7) rfl wr.heap.size 0 rfl (tmC kj.k kj.u kj.n kj.s (.slice aj kj.ks.length cj)) _ (rangeW_blk HB2.out.1) Try.underlying24 rfl (tmC_info _ _ _ _ _) ?_))
            have hx := (HIH.out kj HMEM.out).2 _ F base (.slice oz z.length pz) z f2 (HIH.out kj HMEM.out).1 (HTM.out.below HB2.out.2) (fun j hj e => by have h1 := HF.out j hj; rcases IR.gw.at' j e with h2 | h2; exact h1.1 h2; omega) IR2.size IR2.row (by rw [HZ2.out]; exact HL2.out)
            rw [HZ2.out] at hx
            refine Calls.mono hx ?_
            clear hx
            rintro e' f3 ⟨oy, py, rfl, hrow, hgw⟩
            have IR3 := IR2.go hrow hgw
            clear hrow hgw
            go_wp2_with fail
            go_roundw
            case rel => exact ⟨j + 1, _, _, z2, rfl, by go_num, by omega, HQ2, IR3⟩
            case measure => simp [intOf]; omega
          · have hge : ¬ (j : Int) < (m : Int) := by omega
            have HE := Lib.hid (show z = Z from by rw [← HQ.out, List.drop_of_length_le (by rw [HM.out]; omega), bytesTL, List.append_nil])
            go_wp2_with fail
            go_ret
            exact ⟨oz, pz, by rw [HE.out]; rfl, by rw [← HE.out]; exact IR.row, by rw [← HE.out]; exact IR.gw⟩
      · have hb16 : 0 ≤ n ∧ n ≤ 65535 := by have h := HPN.out; simpa using h
        have hn16 : IntKind.u16.wrap n = n := by rw [IntKind.wrap_u16]; omega
        have HB16 := Lib.hid hb16
        clear hb16
        have c2 := I6.box.cell 2
        simp only [tmC, List.getElem?_cons_zero, List.getElem?_cons_succ] at c2
        go_wp2_with fail
        have hx := put16_any _ x3 n x4.length d4 (Sl.of_owns I6.row) (by have := HL.out.2.2.1; omega) HB16.out (by have h : x3 ++ beF n 2 = x4 := HX4.out; rw [← h, List.length_append, beF_length])
        refine Calls.mono hx ?_
        clear hx c2 hn16
        rintro e' d9 ⟨o4, p4, rfl, hrow, hb⟩
        have I8 := I6.go (v' := .slice o4 x4.length p4) (ys := x4) (by have h := own_low hrow I6.size; have e : x3 ++ beF n 2 = x4 := HX4.out; rw [e] at h; exact h) ⟨Ch.of_below hb (Nat.le_refl _), fun q hq => .inr ((hrow.lt q hq).1)⟩
        clear hrow hb
        have c4 := I8.box.cell 4
        simp only [tmC, List.getElem?_cons_zero, List.getElem?_cons_succ] at c4
        go_wp2_with fail
        clear c4
        go_loopw [0, 47] (fun q i wr => ∃ (j : Nat) (oz : Option Addr) (pz : Nat) (z : List Int), q = .slice oz z.length pz ∧ i = .int .i64 j ∧ j ≤ m ∧ Hid (z ++ bytesTL (ks.drop j) = Z) ∧ PutI w base (.slice va xs.length vc) w.heap.size (tmC k u n s (.slice ao m c)) (.slice oz z.length pz) z wr) (fun _ i _ => m - (intOf i).toNat)
        case atStart => exact ⟨0, _, _, x4, rfl, rfl, Nat.zero_le _, Lib.hid (by rw [List.drop_zero]; exact HZ.out), I8⟩
        case round =>
          clear I8
          obtain ⟨j, oz, pz, z, rfl, rfl, hj, HQ, IR⟩ := hrel
          by_cases hlt : j < m
          · have hjk : j < ks.length := by rw [HM.out]; exact hlt
            have hjz : (j : Int) < (m : Int) := by omega
            have hj0 : (0 : Int) ≤ (j : Int) := by omega
            have HSW := Lib.hid (IR.subL HSL.out (fun j hj => (HF.out j hj).1))
            obtain ⟨b, o, csj, rfl, hFb, hbl, hra, htm⟩ := HSW.out.get hjk
            have HMEM := Lib.hid (List.getElem_mem hjk)
            have HDR := Lib.hid (List.drop_eq_getElem_cons hjk)
            generalize ks[j] = kj at htm HMEM HDR
            obtain ⟨aj, cj, rfl, -, -, -⟩ := htm.shape
            have HRA := Lib.hid hra
            have HTM := Lib.hid htm
            obtain ⟨z2, hz2⟩ : ∃ x, z ++ bytesT kj = x := ⟨_, rfl⟩
            have HZ2 := Lib.hid hz2
            have HQ2 := Lib.hid (show z2 ++ bytesTL (ks.drop (j + 1)) = Z from by have h := HQ.out; rw [HDR.out, bytesTL, ← List.append_assoc, hz2] at h; exact h)
            have HL2 := Lib.hid (show z2.length ≤ 1000000 from by have h1 := HL.out.1; rw [← HQ2.out, List.length_append] at h1; omega)
            clear hra htm hjk hFb hbl hz2
            go_wp2_with (first
    | (with_reducible refine wpList_load_any rfl 24 (.tmp 49) rfl b (o + j * 5) rfl (tmC kj.k kj.u kj.n kj.s (.slice aj kj.ks.length cj)) _ HRA.out Try.underlying24 rfl (tmC_info _ _ _ _ _) ?_)
    | ((with_reducible refine wpList_alloc_blk wr rfl 24 rfl (tmC 0 0 0 ⟨#[]⟩ (.slice none 0 0)) Try.zeroTm ?_); intro f1 hb hbel hsz; have HB1 := Lib.hid (And.intro hb hbel); clear hb hbel hsz)
    | ((with_reducible refine wpList_store_blk f1 rfl 24 (.tmp 7) (.tmp 50) rfl wr.heap.size 24 (tmC 0 0 0 ⟨#[]⟩ (.slice none 0 0)) (tmC kj.k kj.u kj.n kj.s (.slice aj kj.ks.length cj)) HB1.out.1 rfl rfl rfl (tmC_info _ _ _ _ _) (tmC_one _ _ _ _ _ _ _) ?_); intro f2 hb hc hs; have hbw : Below wr.heap.size wr f2 := below_ch HB1.out.2 hc (Nat.le_refl _) (fun k hk => by have e : k = wr.heap.size := hk; omega); have HB2 := Lib.hid (And.intro hb hbw); have IR2 := IR.below hbw; clear hb hc hs hbw)
    | (with_reducible refine wpList_load_any rfl 24 (.tmp 7) rfl wr.heap.size 0 rfl (tmC kj.k kj.u kj.n kj.s (.slice aj kj.ks.length cj)) _ (rangeW_blk HB2.out.1) Try.underlying24 rfl (tmC_info _ _ _ _ _) ?_))
            have hx := (HIH.out kj HMEM.out).2 _ F base (.slice oz z.length pz) z f2 (HIH.out kj HMEM.out).1 (HTM.out.below HB2.out.2) (fun j hj e => by have h1 := HF.out j hj; rcases IR.gw.at' j e with h2 | h2; exact h1.1 h2; omega) IR2.size IR2.row (by rw [HZ2.out]; exact HL2.out)
            rw [HZ2.out] at hx
            refine Calls.mono hx ?_
            clear hx
            rintro e' f3 ⟨oy, py, rfl, hrow, hgw⟩
            have IR3 := IR2.go hrow hgw
            clear hrow hgw
            go_wp2_with fail
            go_roundw
            case rel => exact ⟨j + 1, _, _, z2, rfl, by go_num, by omega, HQ2, IR3⟩
            case measure => simp [intOf]; omega
          · have hge : ¬ (j : Int) < (m : Int) := by omega
            have HE := Lib.hid (show z = Z from by rw [← HQ.out, List.drop_of_length_le (by rw [HM.out]; omega), bytesTL, List.append_nil])
            go_wp2_with fail
            go_ret
            exact ⟨oz, pz, by rw [HE.out]; rfl, by rw [← HE.out]; exact IR.row, by rw [← HE.out]; exact IR.gw⟩
  · have YX := Lib.hid (show y1 ++ ints s = x2 from by have h := HX2.out; rw [if_pos rfl] at h; rw [← HY1.out, List.append_assoc]; exact h)
    have LY1 := Lib.hid (show y1.length ≤ 1000000 from by have h := HL.out.2.2.2.1; rw [← YX.out, List.length_append] at h; omega)
    go_wp2_with fail
    refine wp_region_takes (fun w' => w'.cell? ⟨w.heap.size, 3, none⟩ = some (.string s)) [0, 1, 2, 3, 4, 7, 8] 4 (by kernel_rfl) rfl (by kernel_rfl) (by kernel_rfl) (I2.box.cell 3) ?_
    iterate 7 (refine' HeldL.run ?_ ?_ ?_ ?_; rotate_left 2; (simp only [List.getElem?_toArray, List.getElem?_cons_zero, List.getElem?_cons_succ]; rfl); rfl; (rintro w' k0; go_simp; with_reducible rfl); simp only [Act.put, List.setIfInBounds_toArray, List.set_cons_zero, List.set_cons_succ])
    have sm := (Sm.refl b2).drew
    have HV11 := I2.below (sm.below _)
    clear sm
    generalize b2.drew = v10 at HV11 ⊢
    refine' wpAnyH_one 5 (by kernel_rfl) ?_ ?_; rotate_left; (simp only [List.getElem?_toArray, List.getElem?_cons_zero, List.getElem?_cons_succ]; rfl)
    refine wpList_slice_b1 v10 rfl (.tmp 23) rfl (c := s.size) rfl ?_
    intro h12 hsl hbel
    have S14 := Lib.hid hsl
    have I13 := HV11.below hbel
    clear hsl hbel
    simp only [Act.put, List.setIfInBounds_toArray, List.set_cons_zero, List.set_cons_succ]
    refine QK.normal ⟨(I13.box.cell 3), ?_⟩
    refine' wpAnyH_one 6 (by kernel_rfl) ?_ ?_; rotate_left; (simp only [List.getElem?_toArray, List.getElem?_cons_zero, List.getElem?_cons_succ]; rfl)
    at_builtin
    refine wpList_append_B (.tmp 19) (.tmp 24) rfl rfl I13 rfl rfl S14.out y1 HY1.out LY1.out ?_
    intro o17 p18 h15 I16
    simp only [Act.put, List.setIfInBounds_toArray, List.set_cons_zero, List.set_cons_succ]
    refine QK.normal ⟨(I16.box.cell 3), ?_⟩
    refine' wpAnyH_one 9 (by kernel_rfl) ?_ ?_; rotate_left; (simp only [List.getElem?_toArray, List.getElem?_cons_zero, List.getElem?_cons_succ]; rfl)
    at_builtin
    refine wpList_append_S (.tmp 25) (.tmp 27) rfl rfl I16 rfl rfl x2 YX.out HL.out.2.2.2.1 ?_
    intro o21 p22 h19 I20
    simp only [Act.put, List.setIfInBounds_toArray, List.set_cons_zero, List.set_cons_succ]
    refine QK.normal ⟨(I20.box.cell 3), ?_⟩
    refine' wpAnyH_one 10 (by kernel_rfl) ?_ ?_; rotate_left; (simp only [List.getElem?_toArray, List.getElem?_cons_zero, List.getElem?_cons_succ]; rfl)
    try simp only [Act.put]
    go_wp2_with fail
    refine QK.normal ⟨(I20.box.cell 3), ?_⟩
    refine wpAnyH_done (by kernel_rfl) ?_ _
    refine NoPanic.normal ?_
    go_wp2_with fail
    refine (HU.out h19).mono ?_
    rintro e' w' ⟨rfl, rfl⟩
    cases bU
    · have e : x2 = x3 := by have h := HX3.out; simpa using h
      rw [e] at I20 ⊢
      clear e
      go_wp2_with fail
      refine (HN.out h19).mono ?_
      rintro e' w' ⟨rfl, rfl⟩
      cases bN
      · have e : x3 = x4 := by have h := HX4.out; simpa using h
        rw [e] at I20 ⊢
        clear e
        have c4 := I20.box.cell 4
        simp only [tmC, List.getElem?_cons_zero, List.getElem?_cons_succ] at c4
        go_wp2_with fail
        clear c4
        go_loopw [0, 47] (fun q i wr => ∃ (j : Nat) (oz : Option Addr) (pz : Nat) (z : List Int), q = .slice oz z.length pz ∧ i = .int .i64 j ∧ j ≤ m ∧ Hid (z ++ bytesTL (ks.drop j) = Z) ∧ PutI w base (.slice va xs.length vc) w.heap.size (tmC k u n s (.slice ao m c)) (.slice oz z.length pz) z wr) (fun _ i _ => m - (intOf i).toNat)
        case atStart => exact ⟨0, _, _, x4, rfl, rfl, Nat.zero_le _, Lib.hid (by rw [List.drop_zero]; exact HZ.out), I20⟩
        case round =>
          clear I20
          obtain ⟨j, oz, pz, z, rfl, rfl, hj, HQ, IR⟩ := hrel
          by_cases hlt : j < m
          · have hjk : j < ks.length := by rw [HM.out]; exact hlt
            have hjz : (j : Int) < (m : Int) := by omega
            have hj0 : (0 : Int) ≤ (j : Int) := by omega
            have HSW := Lib.hid (IR.subL HSL.out (fun j hj => (HF.out j hj).1))
            obtain ⟨b, o, csj, rfl, hFb, hbl, hra, htm⟩ := HSW.out.get hjk
            have HMEM := Lib.hid (List.getElem_mem hjk)
            have HDR := Lib.hid (List.drop_eq_getElem_cons hjk)
            generalize ks[j] = kj at htm HMEM HDR
            obtain ⟨aj, cj, rfl, -, -, -⟩ := htm.shape
            have HRA := Lib.hid hra
            have HTM := Lib.hid htm
            obtain ⟨z2, hz2⟩ : ∃ x, z ++ bytesT kj = x := ⟨_, rfl⟩
            have HZ2 := Lib.hid hz2
            have HQ2 := Lib.hid (show z2 ++ bytesTL (ks.drop (j + 1)) = Z from by have h := HQ.out; rw [HDR.out, bytesTL, ← List.append_assoc, hz2] at h; exact h)
            have HL2 := Lib.hid (show z2.length ≤ 1000000 from by have h1 := HL.out.1; rw [← HQ2.out, List.length_append] at h1; omega)
            clear hra htm hjk hFb hbl hz2
            go_wp2_with (first
    | (with_reducible refine wpList_load_any rfl 24 (.tmp 49) rfl b (o + j * 5) rfl (tmC kj.k kj.u kj.n kj.s (.slice aj kj.ks.length cj)) _ HRA.out Try.underlying24 rfl (tmC_info _ _ _ _ _) ?_)
    | ((with_reducible refine wpList_alloc_blk wr rfl 24 rfl (tmC 0 0 0 ⟨#[]⟩ (.slice none 0 0)) Try.zeroTm ?_); intro f1 hb hbel hsz; have HB1 := Lib.hid (And.intro hb hbel); clear hb hbel hsz)
    | ((with_reducible refine wpList_store_blk f1 rfl 24 (.tmp 7) (.tmp 50) rfl wr.heap.size 24 (tmC 0 0 0 ⟨#[]⟩ (.slice none 0 0)) (tmC kj.k kj.u kj.n kj.s (.slice aj kj.ks.length cj)) HB1.out.1 rfl rfl rfl (tmC_info _ _ _ _ _) (tmC_one _ _ _ _ _ _ _) ?_); intro f2 hb hc hs; have hbw : Below wr.heap.size wr f2 := below_ch HB1.out.2 hc (Nat.le_refl _) (fun k hk => by have e : k = wr.heap.size := hk; omega); have HB2 := Lib.hid (And.intro hb hbw); have IR2 := IR.below hbw; clear hb hc hs hbw)
    | (with_reducible refine wpList_load_any rfl 24 (.tmp 7) rfl wr.heap.size 0 rfl (tmC kj.k kj.u kj.n kj.s (.slice aj kj.ks.length cj)) _ (rangeW_blk HB2.out.1) Try.underlying24 rfl (tmC_info _ _ _ _ _) ?_))
            have hx := (HIH.out kj HMEM.out).2 _ F base (.slice oz z.length pz) z f2 (HIH.out kj HMEM.out).1 (HTM.out.below HB2.out.2) (fun j hj e => by have h1 := HF.out j hj; rcases IR.gw.at' j e with h2 | h2; exact h1.1 h2; omega) IR2.size IR2.row (by rw [HZ2.out]; exact HL2.out)
            rw [HZ2.out] at hx
            refine Calls.mono hx ?_
            clear hx
            rintro e' f3 ⟨oy, py, rfl, hrow, hgw⟩
            have IR3 := IR2.go hrow hgw
            clear hrow hgw
            go_wp2_with fail
            go_roundw
            case rel => exact ⟨j + 1, _, _, z2, rfl, by go_num, by omega, HQ2, IR3⟩
            case measure => simp [intOf]; omega
          · have hge : ¬ (j : Int) < (m : Int) := by omega
            have HE := Lib.hid (show z = Z from by rw [← HQ.out, List.drop_of_length_le (by rw [HM.out]; omega), bytesTL, List.append_nil])
            go_wp2_with fail
            go_ret
            exact ⟨oz, pz, by rw [HE.out]; rfl, by rw [← HE.out]; exact IR.row, by rw [← HE.out]; exact IR.gw⟩
      · have hb16 : 0 ≤ n ∧ n ≤ 65535 := by have h := HPN.out; simpa using h
        have hn16 : IntKind.u16.wrap n = n := by rw [IntKind.wrap_u16]; omega
        have HB16 := Lib.hid hb16
        clear hb16
        have c2 := I20.box.cell 2
        simp only [tmC, List.getElem?_cons_zero, List.getElem?_cons_succ] at c2
        go_wp2_with fail
        have hx := put16_any _ x3 n x4.length h19 (Sl.of_owns I20.row) (by have := HL.out.2.2.1; omega) HB16.out (by have h : x3 ++ beF n 2 = x4 := HX4.out; rw [← h, List.length_append, beF_length])
        refine Calls.mono hx ?_
        clear hx c2 hn16
        rintro e' d24 ⟨o4, p4, rfl, hrow, hb⟩
        have I23 := I20.go (v' := .slice o4 x4.length p4) (ys := x4) (by have h := own_low hrow I20.size; have e : x3 ++ beF n 2 = x4 := HX4.out; rw [e] at h; exact h) ⟨Ch.of_below hb (Nat.le_refl _), fun q hq => .inr ((hrow.lt q hq).1)⟩
        clear hrow hb
        have c4 := I23.box.cell 4
        simp only [tmC, List.getElem?_cons_zero, List.getElem?_cons_succ] at c4
        go_wp2_with fail
        clear c4
        go_loopw [0, 47] (fun q i wr => ∃ (j : Nat) (oz : Option Addr) (pz : Nat) (z : List Int), q = .slice oz z.length pz ∧ i = .int .i64 j ∧ j ≤ m ∧ Hid (z ++ bytesTL (ks.drop j) = Z) ∧ PutI w base (.slice va xs.length vc) w.heap.size (tmC k u n s (.slice ao m c)) (.slice oz z.length pz) z wr) (fun _ i _ => m - (intOf i).toNat)
        case atStart => exact ⟨0, _, _, x4, rfl, rfl, Nat.zero_le _, Lib.hid (by rw [List.drop_zero]; exact HZ.out), I23⟩
        case round =>
          clear I23
          obtain ⟨j, oz, pz, z, rfl, rfl, hj, HQ, IR⟩ := hrel
          by_cases hlt : j < m
          · have hjk : j < ks.length := by rw [HM.out]; exact hlt
            have hjz : (j : Int) < (m : Int) := by omega
            have hj0 : (0 : Int) ≤ (j : Int) := by omega
            have HSW := Lib.hid (IR.subL HSL.out (fun j hj => (HF.out j hj).1))
            obtain ⟨b, o, csj, rfl, hFb, hbl, hra, htm⟩ := HSW.out.get hjk
            have HMEM := Lib.hid (List.getElem_mem hjk)
            have HDR := Lib.hid (List.drop_eq_getElem_cons hjk)
            generalize ks[j] = kj at htm HMEM HDR
            obtain ⟨aj, cj, rfl, -, -, -⟩ := htm.shape
            have HRA := Lib.hid hra
            have HTM := Lib.hid htm
            obtain ⟨z2, hz2⟩ : ∃ x, z ++ bytesT kj = x := ⟨_, rfl⟩
            have HZ2 := Lib.hid hz2
            have HQ2 := Lib.hid (show z2 ++ bytesTL (ks.drop (j + 1)) = Z from by have h := HQ.out; rw [HDR.out, bytesTL, ← List.append_assoc, hz2] at h; exact h)
            have HL2 := Lib.hid (show z2.length ≤ 1000000 from by have h1 := HL.out.1; rw [← HQ2.out, List.length_append] at h1; omega)
            clear hra htm hjk hFb hbl hz2
            go_wp2_with (first
    | (with_reducible refine wpList_load_any rfl 24 (.tmp 49) rfl b (o + j * 5) rfl (tmC kj.k kj.u kj.n kj.s (.slice aj kj.ks.length cj)) _ HRA.out Try.underlying24 rfl (tmC_info _ _ _ _ _) ?_)
    | ((with_reducible refine wpList_alloc_blk wr rfl 24 rfl (tmC 0 0 0 ⟨#[]⟩ (.slice none 0 0)) Try.zeroTm ?_); intro f1 hb hbel hsz; have HB1 := Lib.hid (And.intro hb hbel); clear hb hbel hsz)
    | ((with_reducible refine wpList_store_blk f1 rfl 24 (.tmp 7) (.tmp 50) rfl wr.heap.size 24 (tmC 0 0 0 ⟨#[]⟩ (.slice none 0 0)) (tmC kj.k kj.u kj.n kj.s (.slice aj kj.ks.length cj)) HB1.out.1 rfl rfl rfl (tmC_info _ _ _ _ _) (tmC_one _ _ _ _ _ _ _) ?_); intro f2 hb hc hs; have hbw : Below wr.heap.size wr f2 := below_ch HB1.out.2 hc (Nat.le_refl _) (fun k hk => by have e : k = wr.heap.size := hk; omega); have HB2 := Lib.hid (And.intro hb hbw); have IR2 := IR.below hbw; clear hb hc hs hbw)
    | (with_reducible refine wpList_load_any rfl 24 (.tmp 7) rfl wr.heap.size 0 rfl (tmC kj.k kj.u kj.n kj.s (.slice aj kj.ks.length cj)) _ (rangeW_blk HB2.out.1) Try.underlying24 rfl (tmC_info _ _ _ _ _) ?_))
            have hx := (HIH.out kj HMEM.out).2 _ F base (.slice oz z.length pz) z f2 (HIH.out kj HMEM.out).1 (HTM.out.below HB2.out.2) (fun j hj e => by have h1 := HF.out j hj; rcases IR.gw.at' j e with h2 | h2; exact h1.1 h2; omega) IR2.size IR2.row (by rw [HZ2.out]; exact HL2.out)
            rw [HZ2.out] at hx
            refine Calls.mono hx ?_
            clear hx
            rintro e' f3 ⟨oy, py, rfl, hrow, hgw⟩
            have IR3 := IR2.go hrow hgw
            clear hrow hgw
            go_wp2_with fail
            go_roundw
            case rel => exact ⟨j + 1, _, _, z2, rfl, by go_num, by omega, HQ2, IR3⟩
            case measure => simp [intOf]; omega
          · have hge : ¬ (j : Int) < (m : Int) := by omega
            have HE := Lib.hid (show z = Z from by rw [← HQ.out, List.drop_of_length_le (by rw [HM.out]; omega), bytesTL, List.append_nil])
            go_wp2_with fail
            go_ret
            exact ⟨oz, pz, by rw [HE.out]; rfl, by rw [← HE.out]; exact IR.row, by rw [← HE.out]; exact IR.gw⟩
    · have hu8 : IntKind.u8.wrap u = u := wrap_u8 (by have h := HPU.out; simp at h; omega)
      have c1 := I20.box.cell 1
      simp only [tmC, List.getElem?_cons_zero, List.getElem?_cons_succ] at c1
      go_wp2_with (first
    | ((with_reducible refine wpList_slice_b1 h19 rfl (.tmp 34) rfl (c := u) rfl ?_); intro d25 hsl hbel; have S29 := Lib.hid hsl; have I27 := I20.below hbel; clear hsl hbel)
    | (at_builtin; (refine wpList_append_B (.tmp 31) (.tmp 35) rfl rfl I27 rfl rfl S29.out x3 (by have h := HX3.out; simpa using h) HL.out.2.2.1 ?_); intro o3 p3 d26 I28))
      clear c1 hu8
      go_wp2_with fail
      refine (HN.out d26).mono ?_
      rintro e' w' ⟨rfl, rfl⟩
      cases bN
      · have e : x3 = x4 := by have h := HX4.out; simpa using h
        rw [e] at I28 ⊢
        clear e
        have c4 := I28.box.cell 4
        simp only [tmC, List.getElem?_cons_zero, List.getElem?_cons_succ] at c4
        go_wp2_with fail
        clear c4
        go_loopw [0, 47] (fun q i wr => ∃ (j : Nat) (oz : Option Addr) (pz : Nat) (z : List Int), q = .slice oz z.length pz ∧ i = .int .i64 j ∧ j ≤ m ∧ Hid (z ++ bytesTL (ks.drop j) = Z) ∧ PutI w base (.slice va xs.length vc) w.heap.size (tmC k u n s (.slice ao m c)) (.slice oz z.length pz) z wr) (fun _ i _ => m - (intOf i).toNat)
        case atStart => exact ⟨0, _, _, x4, rfl, rfl, Nat.zero_le _, Lib.hid (by rw [List.drop_zero]; exact HZ.out), I28⟩
        case round =>
          clear I28
          obtain ⟨j, oz, pz, z, rfl, rfl, hj, HQ, IR⟩ := hrel
          by_cases hlt : j < m
          · have hjk : j < ks.length := by rw [HM.out]; exact hlt
            have hjz : (j : Int) < (m : Int) := by omega
            have hj0 : (0 : Int) ≤ (j : Int) := by omega
            have HSW := Lib.hid (IR.subL HSL.out (fun j hj => (HF.out j hj).1))
            obtain ⟨b, o, csj, rfl, hFb, hbl, hra, htm⟩ := HSW.out.get hjk
            have HMEM := Lib.hid (List.getElem_mem hjk)
            have HDR := Lib.hid (List.drop_eq_getElem_cons hjk)
            generalize ks[j] = kj at htm HMEM HDR
            obtain ⟨aj, cj, rfl, -, -, -⟩ := htm.shape
            have HRA := Lib.hid hra
            have HTM := Lib.hid htm
            obtain ⟨z2, hz2⟩ : ∃ x, z ++ bytesT kj = x := ⟨_, rfl⟩
            have HZ2 := Lib.hid hz2
            have HQ2 := Lib.hid (show z2 ++ bytesTL (ks.drop (j + 1)) = Z from by have h := HQ.out; rw [HDR.out, bytesTL, ← List.append_assoc, hz2] at h; exact h)
            have HL2 := Lib.hid (show z2.length ≤ 1000000 from by have h1 := HL.out.1; rw [← HQ2.out, List.length_append] at h1; omega)
            clear hra htm hjk hFb hbl hz2
            go_wp2_with (first
    | (with_reducible refine wpList_load_any rfl 24 (.tmp 49) rfl b (o + j * 5) rfl (tmC kj.k kj.u kj.n kj.s (.slice aj kj.ks.length cj)) _ HRA.out Try.underlying24 rfl (tmC_info _ _ _ _ _) ?_)
    | ((with_reducible refine wpList_alloc_blk wr rfl 24 rfl (tmC 0 0 0 ⟨#[]⟩ (.slice none 0 0)) Try.zeroTm ?_); intro f1 hb hbel hsz; have HB1 := Lib.hid (And.intro hb hbel); clear hb hbel hsz)
    | ((with_reducible refine wpList_store_blk f1 rfl 24 (.tmp 7) (.tmp 50) rfl wr.heap.size 24 (tmC 0 0 0 ⟨#[]⟩ (.slice none 0 0)) (tmC kj.k kj.u kj.n kj.s (.slice aj kj.ks.length cj)) HB1.out.1 rfl rfl rfl (tmC_info _ _ _ _ _) (tmC_one _ _ _ _ _ _ _) ?_); intro f2 hb hc hs; have hbw : Below wr.heap.size wr f2 := below_ch HB1.out.2 hc (Nat.le_refl _) (fun k hk => by have e : k = wr.heap.size := hk; omega); have HB2 := Lib.hid (And.intro hb hbw); have IR2 := IR.below hbw; clear hb hc hs hbw)
    | (with_reducible refine wpList_load_any rfl 24 (.tmp 7) rfl wr.heap.size 0 rfl (tmC kj.k kj.u kj.n kj.s (.slice aj kj.ks.length cj)) _ (rangeW_blk HB2.out.1) Try.underlying24 rfl (tmC_info _ _ _ _ _) ?_))
            have hx := (HIH.out kj HMEM.out).2 _ F base (.slice oz z.length pz) z f2 (HIH.out kj HMEM.out).1 (HTM.out.below HB2.out.2) (fun j hj e => by have h1 := HF.out j hj; rcases IR.gw.at' j e with h2 | h2; exact h1.1 h2; omega) IR2.size IR2.row (by rw [HZ2.out]; exact HL2.out)
            rw [HZ2.out] at hx
            refine Calls.mono hx ?_
            clear hx
            rintro e' f3 ⟨oy, py, rfl, hrow, hgw⟩
            have IR3 := IR2.go hrow hgw
            clear hrow hgw
            go_wp2_with fail
            go_roundw
            case rel => exact ⟨j + 1, _, _, z2, rfl, by go_num, by omega, HQ2, IR3⟩
            case measure => simp [intOf]; omega
          · have hge : ¬ (j : Int) < (m : Int) := by omega
            have HE := Lib.hid (show z = Z from by rw [← HQ.out, List.drop_of_length_le (by rw [HM.out]; omega), bytesTL, List.append_nil])
            go_wp2_with fail
            go_ret
            exact ⟨oz, pz, by rw [HE.out]; rfl, by rw [← HE.out]; exact IR.row, by rw [← HE.out]; exact IR.gw⟩
      · have hb16 : 0 ≤ n ∧ n ≤ 65535 := by have h := HPN.out; simpa using h
        have hn16 : IntKind.u16.wrap n = n := by rw [IntKind.wrap_u16]; omega
        have HB16 := Lib.hid hb16
        clear hb16
        have c2 := I28.box.cell 2
        simp only [tmC, List.getElem?_cons_zero, List.getElem?_cons_succ] at c2
        go_wp2_with fail
        have hx := put16_any _ x3 n x4.length d26 (Sl.of_owns I28.row) (by have := HL.out.2.2.1; omega) HB16.out (by have h : x3 ++ beF n 2 = x4 := HX4.out; rw [← h, List.length_append, beF_length])
        refine Calls.mono hx ?_
        clear hx c2 hn16
        rintro e' d31 ⟨o4, p4, rfl, hrow, hb⟩
        have I30 := I28.go (v' := .slice o4 x4.length p4) (ys := x4) (by have h := own_low hrow I28.size; have e : x3 ++ beF n 2 = x4 := HX4.out; rw [e] at h; exact h) ⟨Ch.of_below hb (Nat.le_refl _), fun q hq => .inr ((hrow.lt q hq).1)⟩
        clear hrow hb
        have c4 := I30.box.cell 4
        simp only [tmC, List.getElem?_cons_zero, List.getElem?_cons_succ] at c4
        go_wp2_with fail
        clear c4
        go_loopw [0, 47] (fun q i wr => ∃ (j : Nat) (oz : Option Addr) (pz : Nat) (z : List Int), q = .slice oz z.length pz ∧ i = .int .i64 j ∧ j ≤ m ∧ Hid (z ++ bytesTL (ks.drop j) = Z) ∧ PutI w base (.slice va xs.length vc) w.heap.size (tmC k u n s (.slice ao m c)) (.slice oz z.length pz) z wr) (fun _ i _ => m - (intOf i).toNat)
        case atStart => exact ⟨0, _, _, x4, rfl, rfl, Nat.zero_le _, Lib.hid (by rw [List.drop_zero]; exact HZ.out), I30⟩
        case round =>
          clear I30
          obtain ⟨j, oz, pz, z, rfl, rfl, hj, HQ, IR⟩ := hrel
          by_cases hlt : j < m
          · have hjk : j < ks.length := by rw [HM.out]; exact hlt
            have hjz : (j : Int) < (m : Int) := by omega
            have hj0 : (0 : Int) ≤ (j : Int) := by omega
            have HSW := Lib.hid (IR.subL HSL.out (fun j hj => (HF.out j hj).1))
            obtain ⟨b, o, csj, rfl, hFb, hbl, hra, htm⟩ := HSW.out.get hjk
            have HMEM := Lib.hid (List.getElem_mem hjk)
            have HDR := Lib.hid (List.drop_eq_getElem_cons hjk)
            generalize ks[j] = kj at htm HMEM HDR
            obtain ⟨aj, cj, rfl, -, -, -⟩ := htm.shape
            have HRA := Lib.hid hra
            have HTM := Lib.hid htm
            obtain ⟨z2, hz2⟩ : ∃ x, z ++ bytesT kj = x := ⟨_, rfl⟩
            have HZ2 := Lib.hid hz2
            have HQ2 := Lib.hid (show z2 ++ bytesTL (ks.drop (j + 1)) = Z from by have h := HQ.out; rw [HDR.out, bytesTL, ← List.append_assoc, hz2] at h; exact h)
            have HL2 := Lib.hid (show z2.length ≤ 1000000 from by have h1 := HL.out.1; rw [← HQ2.out, List.length_append] at h1; omega)
            clear hra htm hjk hFb hbl hz2
            go_wp2_with (first
    | (with_reducible refine wpList_load_any rfl 24 (.tmp 49) rfl b (o + j * 5) rfl (tmC kj.k kj.u kj.n kj.s (.slice aj kj.ks.length cj)) _ HRA.out Try.underlying24 rfl (tmC_info _ _ _ _ _) ?_)
    | ((with_reducible refine wpList_alloc_blk wr rfl 24 rfl (tmC 0 0 0 ⟨#[]⟩ (.slice none 0 0)) Try.zeroTm ?_); intro f1 hb hbel hsz; have HB1 := Lib.hid (And.intro hb hbel); clear hb hbel hsz)
    | ((with_reducible refine wpList_store_blk f1 rfl 24 (.tmp 7) (.tmp 50) rfl wr.heap.size 24 (tmC 0 0 0 ⟨#[]⟩ (.slice none 0 0)) (tmC kj.k kj.u kj.n kj.s (.slice aj kj.ks.length cj)) HB1.out.1 rfl rfl rfl (tmC_info _ _ _ _ _) (tmC_one _ _ _ _ _ _ _) ?_); intro f2 hb hc hs; have hbw : Below wr.heap.size wr f2 := below_ch HB1.out.2 hc (Nat.le_refl _) (fun k hk => by have e : k = wr.heap.size := hk; omega); have HB2 := Lib.hid (And.intro hb hbw); have IR2 := IR.below hbw; clear hb hc hs hbw)
    | (with_reducible refine wpList_load_any rfl 24 (.tmp 7) rfl wr.heap.size 0 rfl (tmC kj.k kj.u kj.n kj.s (.slice aj kj.ks.length cj)) _ (rangeW_blk HB2.out.1) Try.underlying24 rfl (tmC_info _ _ _ _ _) ?_))
            have hx := (HIH.out kj HMEM.out).2 _ F base (.slice oz z.length pz) z f2 (HIH.out kj HMEM.out).1 (HTM.out.below HB2.out.2) (fun j hj e => by have h1 := HF.out j hj; rcases IR.gw.at' j e with h2 | h2; exact h1.1 h2; omega) IR2.size IR2.row (by rw [HZ2.out]; exact HL2.out)
            rw [HZ2.out] at hx
            refine Calls.mono hx ?_
            clear hx
            rintro e' f3 ⟨oy, py, rfl, hrow, hgw⟩
            have IR3 := IR2.go hrow hgw
            clear hrow hgw
            go_wp2_with fail
            go_roundw
            case rel => exact ⟨j + 1, _, _, z2, rfl, by go_num, by omega, HQ2, IR3⟩
            case measure => simp [intOf]; omega
          · have hge : ¬ (j : Int) < (m : Int) := by omega
            have HE := Lib.hid (show z = Z from by rw [← HQ.out, List.drop_of_length_le (by rw [HM.out]; omega), bytesTL, List.append_nil])
            go_wp2_with fail
            go_ret
            exact ⟨oz, pz, by rw [HE.out]; rfl, by rw [← HE.out]; exact IR.row, by rw [← HE.out]; exact IR.gw⟩


end Go.Proofs.Ytfenikoajadiaaa
