/-
  The law DiskFollows, walked. Conditions: n is an int; a row of acts.
-/
import Derived.Test.YticcjaccpcnjhaaRdP
namespace Go.Proofs.Yticcjaccpcnjhaa
open Go Go.RowKit
set_option linter.unusedSimpArgs false

section
variable {w w0 wr w' : World} {p q : Nat} {x y : Dk} {o o' : Option (Nat × Dk)} {R F R7 : Nat → Prop} {bs : Bs} {sv sv' : Value} {st st' : List Wr}
/-- the disk has lived -/
theorem EnvS.lives (h : EnvS w w0 wr p x o R F bs sv st) (hd : Duo w w' q y o R7) (hs : StAt w' sv' st') (hk : ∀ k, sv'.ownBlock = some k → R7 k ∧ (sv.ownBlock = some k ∨ wr.heap.size ≤ k)) (hsub : ∀ k, (F k ∨ k ∈ bs.map (·.1)) → R7 k) (hc : Ch (fun k => ¬ (F k ∨ k ∈ bs.map (·.1))) wr w') :
    EnvS w w0 w' q y o R (fun k => R7 k ∧ k ∉ bs.map (·.1)) bs sv' st' where
  env := ⟨hd.less (fun k hk => by rcases hk with hk | hk; exact hk.1; exact hsub k (.inr hk)), h.env.nodup, fun e he hf => hf.2 (List.mem_map.2 ⟨e, he, rfl⟩), fun e he => (h.env.blk e he).keep hc (fun hn => hn (.inr (List.mem_map.2 ⟨e, he, rfl⟩)))⟩
  told := hs
  row := fun k e => ⟨(hk k e).1, fun hm => by
    obtain ⟨b, hb, rfl⟩ := List.mem_map.1 hm
    rcases (hk _ e).2 with h2 | h2
    · exact h.env.apart b hb (h.row _ h2)
    · have := (h.env.blk b hb).lt; omega⟩
  sub := fun k hr => ⟨hsub k (.inl (h.sub k hr)), fun hm => by
    obtain ⟨b, hb, rfl⟩ := List.mem_map.1 hm
    exact h.env.apart b hb (h.sub _ hr)⟩
  ch := h.ch.trans' hc (fun i _ hn hr => hn (.inl (h.sub i hr)))
theorem EnvS.start (h : Duo w wr p x o (fun _ => False)) : EnvS w wr wr p x o (fun _ => False) (fun _ => False) [] (.slice none 0 0) [] :=
  ⟨EnvR.of h, ⟨none, 0, rfl, Nat.le_refl _, by omega, fun h => by simp at h, fun _ => rfl⟩, fun k e => (by cases e), fun _ h => h, Ch.refl _ _⟩
end

theorem ref_new (n : Int) : RefOf (newD n) [] 0 := ⟨Nat.le_refl _, rfl, fun _ => rfl, fun e he => by cases he⟩

/-- how the reads stand -/
structure FolI (w w2 : World) (q : Nat) (n : Int) (F : Nat → Prop) (B : Nat) (z : Dk) (fm : Nat) (sv : Value) (st : List Wr) (x : Dk) (k : Nat) (wr : World) : Prop where
  env : EnvS w w2 wr q x none (fun _ => False) F [(B, 30, rC z fm sv)] sv st
  idle : Idle x
  size : x.size = n
  holds : ∀ j, x.holds j = z.holds j
  ok : x.Ok k

set_option maxRecDepth 100000 in
set_option maxHeartbeats 8000000 in
theorem diskFollows_walk (n : Int) (v0 : Value) (l : List (ActD × Value)) (w : World) (hn : -9223372036854775808 ≤ n ∧ n ≤ 9223372036854775807) (s : SlA w v0 l) : Calls Try.prog 3 #[.int .i64 n, v0] w (TrueP w) := by
  have hn1 := hn.1
  have hn2 := hn.2
  clear hn
  have HS := Lib.hid s
  obtain ⟨a0, al, ac, hv⟩ : ∃ a0 al ac, v0 = .slice a0 al ac := by obtain ⟨ao, cp, rfl, _⟩ := s; exact ⟨_, _, _, rfl⟩
  subst hv
  clear s
  go_enter Try.func3, Try.ntmps3
  go_wp2_with fail
  refine (wakes_any w).mono ?_
  rintro e w1 ⟨rfl, hb1⟩
  go_wp2_with fail
  by_cases hin : 1 ≤ n ∧ n ≤ 2048
  · have hin1 := hin.1
    have hin2 := hin.2
    clear hin hn1 hn2
    refine (new_ok n w1 hin1 hin2).mono ?_
    rintro e w2 ⟨p, rfl, hd2, hb2⟩
    have H2 := Lib.hid (EnvS.start (duo_start1 hb1 hd2 hb2).end)
    clear hb1 hd2 hb2
    go_wp2_with fail
    refine (rnew_any n true w2 (by simp [hin1, hin2])).mono ?_
    rintro e w3 ⟨rfl, hb3⟩
    have H3 := Lib.hid (H2.out.below hb3)
    have HIN := Lib.hid (infoR (newD n) 0 (.slice none 0 0))
    have HLN := Lib.hid (lenR (newD n) 0 (.slice none 0 0))
    have HON := Lib.hid (oneR (newD n) 0 none 0 0)
    have HOK := Lib.hid (And.intro (newD_ok hin1 hin2 0) (ref_new n))
    clear hb3 H2
    go_wp2_with (first
      | ((with_reducible refine wpList_alloc_blk w3 rfl 30 rfl rZ Try.zeroRd ?_); intro w4 hb hbel hsz; have H4 := Lib.hid (H3.out.new hb hbel hsz); clear hb hbel hsz)
      | ((with_reducible refine wpList_store_blk w4 rfl 30 (.tmp 7) (.tmp 22) rfl w3.heap.size 30 (rZ) (rC (newD n) 0 (.slice none 0 0)) (H4.out.env.at 0 rfl) rfl rfl HLN.out HIN.out HON.out ?_); intro w5 hb hc hs; have H5 := Lib.hid (H4.out.put 0 rfl hb hc); have HRN := Lib.hid (rangeW_blk hb); clear hb hc hs)
      | (with_reducible refine wpList_load_any rfl 30 (.tmp 7) rfl w3.heap.size 0 rfl (rC (newD n) 0 (.slice none 0 0)) _ HRN.out Try.underlying30 rfl HIN.out ?_))
    refine (stands_any 0 0 _ [] H5.out.env.duo H5.out.told HOK.out.2 HOK.out.1 (by omega) (by simp)).mono ?_
    rintro e w6 ⟨rfl, hb6⟩
    have H6 := Lib.hid (H5.out.below hb6)
    have HRN := Lib.hid (show w6.rangeAt w3.heap.size 0 (rC (newD n) 0 (.slice none 0 0)) from H6.out.env.rng 0 rfl)
    clear hb6 H3 H4 H5
    go_wp2_with (first
      | (with_reducible refine wpList_load_any rfl 30 (.tmp 7) rfl w3.heap.size 0 rfl (rC (newD n) 0 (.slice none 0 0)) _ HRN.out Try.underlying30 rfl HIN.out ?_))
    refine (lived_any 0 0 _ [] _ l H6.out.env.duo H6.out.told (fun k e => .inl (H6.out.row k e)) HOK.out.2 HOK.out.1 (by omega) (by simp) HS.out).mono ?_
    rintro e w7 ⟨q, y, fm, sv, st, R7, rfl, hd, hs, hk, hsub, _, hc, hr, hl, hok, hsz⟩
    have H7 := Lib.hid (H6.out.lives hd hs hk hsub hc)
    obtain ⟨so, sc, rfl, -⟩ := id hs
    have HL := Lib.hid (show RefOf y st fm ∧ st.length ≤ 60 ∧ y.Ok 60 ∧ y.size = n from ⟨hr, by simpa using hl, by simpa using hok, hsz⟩)
    have HIY := Lib.hid (infoR y fm (.slice so st.length sc))
    have HLY := Lib.hid (show (rC y fm (.slice so st.length sc)).length = (rC (newD n) 0 (.slice none 0 0)).length from rfl)
    have HOY := Lib.hid (oneR y fm so st.length sc)
    obtain ⟨F7, H7⟩ : ∃ F7, Hid (EnvS w w2 w7 q y none (fun _ => False) F7 [(w3.heap.size, 30, rC (newD n) 0 (.slice none 0 0))] (.slice so st.length sc) st) := ⟨_, H7⟩
    clear hd hs hk hsub hc hr hl hok hsz H6 HRN
    go_wp2_with (first
      | ((with_reducible refine wpList_store_blk w7 rfl 30 (.tmp 7) (.tmp 50) rfl w3.heap.size 30 (rC (newD n) 0 (.slice none 0 0)) (rC y fm (.slice so st.length sc)) (H7.out.env.at 0 rfl) rfl rfl HLY.out HIY.out HOY.out ?_); intro w8 hb hc hs; have H8 := Lib.hid (H7.out.put 0 rfl hb hc); clear hb hc hs))
    refine (crash_duo none 0 0 60 [] (crashD [] y) H8.out.env.duo HL.out.2.2.1 (by omega) (Sl.nil _) (fun k e => by cases e) rfl).mono ?_
    rintro e w9 ⟨rfl, hd9⟩
    have H9 := Lib.hid (H8.out.did hd9)
    have HRY := Lib.hid (show w9.rangeAt w3.heap.size 0 (rC y fm (.slice so st.length sc)) from H9.out.env.rng 0 rfl)
    clear hd9 H7 H8
    go_wp2_with (first
      | (with_reducible refine wpList_load_any rfl 30 (.tmp 7) rfl w3.heap.size 0 rfl (rC y fm (.slice so st.length sc)) _ HRY.out Try.underlying30 rfl HIY.out ?_))
    refine (rcrash_any y fm _ _ st none 0 [] w9 H9.out.told HL.out.1 (by have := HL.out.2.1; omega) (Sl.nil _) rfl).mono ?_
    rintro e w10 ⟨sv2, rfl, hs2, hk2, hb10⟩
    have hz := HL.out.1.crash []
    have hzl := crashS_len [] st fm HL.out.1.le
    generalize crashS [] st fm = st2 at hs2 hz hzl ⊢
    obtain ⟨fm2, hfm2⟩ : ∃ fm2, st2.length = fm2 := ⟨_, rfl⟩
    rw [hfm2] at hz ⊢
    obtain ⟨z2o, z2c, rfl, -⟩ := id hs2
    have H10 := Lib.hid (H9.out.tell hb10 hs2 (fun k e => .inr (hk2 k e)))
    have HZ := Lib.hid (show (crashD [] y).size = n ∧ y.Ok 60 ∧ RefOf (crashD [] y) st2 fm2 ∧ st2.length ≤ 60 from ⟨HL.out.2.2.2, HL.out.2.2.1, hz, by have := HL.out.2.1; omega⟩)
    obtain ⟨F2, H10⟩ : ∃ F2, Hid (EnvS w w2 w10 q (crashD [] y) none (fun _ => False) F2 [(w3.heap.size, 30, rC y fm (.slice so st.length sc))] (.slice z2o st2.length z2c) st2) := ⟨_, H10⟩
    have HIZ := Lib.hid (infoR (crashD [] y) fm2 (.slice z2o st2.length z2c))
    have HLZ := Lib.hid (show (rC (crashD [] y) fm2 (.slice z2o st2.length z2c)).length = (rC y fm (.slice so st.length sc)).length from rfl)
    have HOZ := Lib.hid (oneR (crashD [] y) fm2 z2o st2.length z2c)
    clear hs2 hk2 hb10 hz hzl hfm2 H9 HRY
    by_cases h8 : n ≤ 8
    · skip
      go_wp2_with (first
        | ((with_reducible refine wpList_store_blk w10 rfl 30 (.tmp 7) (.tmp 58) rfl w3.heap.size 30 (rC y fm (.slice so st.length sc)) (rC (crashD [] y) fm2 (.slice z2o st2.length z2c)) (H10.out.env.at 0 rfl) rfl rfl HLZ.out HIZ.out HOZ.out ?_); intro w11 hb hc hs; have H11 := Lib.hid (H10.out.put 0 rfl hb hc); clear hb hc hs))
      go_loopw [61] (fun c wr => ∃ i : Nat, (i : Int) ≤ n ∧ c = .int .i64 i ∧ Hid (∃ x, FolI w w2 q n F2 w3.heap.size (crashD [] y) fm2 (.slice z2o st2.length z2c) st2 x (60 + i) wr)) (fun c _ => n.toNat - (intOf c).toNat)
      case atStart => exact ⟨0, by omega, rfl, Lib.hid ⟨crashD [] y, ⟨H11.out, ⟨rfl, rfl, rfl⟩, HZ.out.1, fun _ => rfl, crashD_ok HZ.out.2.1 _⟩⟩⟩
      case round =>
        obtain ⟨i, hi, rfl, HR⟩ := hrel
        obtain ⟨x, HR⟩ := HR.out
        replace HR := Lib.hid HR
        clear H11
        by_cases hlt : (i : Int) < n
        · have hi0 : (0 : Int) ≤ (i : Int) := by omega
          have hiN : (i : Int) < n := by omega
          have hi8 : i < 8 := by omega
          have HIX : (i : Int) < x.size := by rw [HR.out.size]; exact hiN
          obtain ⟨bb, hbb⟩ : ∃ bb, x.holds i = bb := ⟨_, rfl⟩
          have hbB : IsB bb := by rw [← hbb]; exact HR.out.ok.holdsB i
          have HZB := Lib.hid (show (crashD [] y).holds i = bb from by rw [← HR.out.holds i]; exact hbb)
          have HIB := Lib.hid (infoB hbB)
          have HLB := Lib.hid (lenB' hbB)
          have HE := Lib.hid (fun w => eq_blocks w bb bb true hbB hbB (decide_eq_true rfl))
          have HRD := Lib.hid (show readB x i = bb ∧ askE x i false = 0 ∧ readD x i = { x with ops := x.ops + 1 } ∧ (i : Int) < x.size from ⟨(idle_readB HR.out.idle hi0 HIX).trans hbb, idle_ok HR.out.idle _ hi0 HIX, idle_read HR.out.idle hi0 HIX, HIX⟩)
          clear hbb hbB HIX
          go_wp2_with fail
          refine (read_duo i bb 0 (60 + i) _ HR.out.env.env.duo HR.out.ok (by omega) rfl HRD.out.2.1 HRD.out.1).mono ?_
          rintro e w20 ⟨rfl, hd⟩
          have H20 := Lib.hid (HR.out.env.did hd)
          clear hd
          go_wp2_with (first
            | ((with_reducible refine wpList_alloc_blk w20 rfl 39 rfl (ofK .u8 zer) Try.zeroBl ?_); intro w21 hb hbel hsz; have H21 := Lib.hid (H20.out.new hb hbel hsz); clear hb hbel hsz)
            | ((with_reducible refine wpList_store_blk w21 rfl 39 (.tmp 10) (.tmp 68) rfl w20.heap.size 39 (ofK .u8 zer) (ofK .u8 bb) (H21.out.env.at 0 rfl) rfl rfl HLB.out HIB.out (one_ofK _ _) ?_); intro w22 hb hc hs; have H22 := Lib.hid (H21.out.put 0 rfl hb hc); clear hb hc hs))
          have H23 := Lib.hid (H22.out.below (Below.refl _ w22).drew)
          refine wp_region_takes (fun w' => w'.rangeAt w20.heap.size 0 (ofK .u8 bb) ∧ w'.rangeAt w3.heap.size 0 (rC (crashD [] y) fm2 (.slice z2o st2.length z2c))) [0, 1, 2, 3, 4, 5] 3 (by kernel_rfl) rfl (by kernel_rfl) (by kernel_rfl) ⟨H23.out.env.rng 0 rfl, H23.out.env.rng 1 rfl⟩ ?_
          generalize w22.drew = v0 at H23 ⊢
          clear H20 H21 H22
          iterate 3 (refine' HeldL.run ?_ ?_ ?_ ?_; rotate_left 2; (simp only [List.getElem?_toArray, List.getElem?_cons_zero, List.getElem?_cons_succ]; rfl); rfl; (rintro w' ⟨k0, k1⟩; go_simp; with_reducible rfl); simp only [Act.put, List.setIfInBounds_toArray, List.set_cons_zero, List.set_cons_succ])
          refine' HeldL.run ?_ ?_ ?_ ?_; rotate_left 2; (simp only [List.getElem?_toArray, List.getElem?_cons_zero, List.getElem?_cons_succ]; rfl); rfl; (rintro w' ⟨k0, k1⟩; exact exec_load_mid rfl rfl k0 Try.underlying39 rfl HIB.out); simp only [Act.put, List.setIfInBounds_toArray, List.set_cons_zero, List.set_cons_succ]
          refine' HeldL.run ?_ ?_ ?_ ?_; rotate_left 2; (simp only [List.getElem?_toArray, List.getElem?_cons_zero, List.getElem?_cons_succ]; rfl); rfl; (rintro w' ⟨k0, k1⟩; exact exec_load_mid rfl rfl k1 Try.underlying30 rfl HIZ.out); simp only [Act.put, List.setIfInBounds_toArray, List.set_cons_zero, List.set_cons_succ]
          iterate 1 (refine' HeldL.run ?_ ?_ ?_ ?_; rotate_left 2; (simp only [List.getElem?_toArray, List.getElem?_cons_zero, List.getElem?_cons_succ]; rfl); rfl; (rintro w' ⟨k0, k1⟩; go_simp; with_reducible rfl); simp only [Act.put, List.setIfInBounds_toArray, List.set_cons_zero, List.set_cons_succ])
          refine' wpAnyH_one 6 (by kernel_rfl) ?_ ?_; rotate_left; (simp only [List.getElem?_toArray, List.getElem?_cons_zero, List.getElem?_cons_succ]; rfl)
          try simp only [Act.put]
          go_wp2_with fail
          have hch := rholds_any (crashD [] y) fm2 _ st2 i v0 H23.out.told HZ.out.2.2.1.blk (by have := HZ.out.2.2.2; omega)
          rw [← HZ.out.2.2.1.holds, HZB.out] at hch
          refine hch.mono ?_
          rintro e w24 ⟨rfl, hb24⟩
          have H24 := Lib.hid (H23.out.below hb24)
          clear hb24 hch H23
          try go_wp2_with fail
          refine QK.normal ⟨⟨H24.out.env.rng 0 rfl, H24.out.env.rng 1 rfl⟩, ?_⟩
          have he := HE.out
          refine' wpAnyH_one 7 (by kernel_rfl) ?_ ?_; rotate_left; (simp only [List.getElem?_toArray, List.getElem?_cons_zero, List.getElem?_cons_succ]; rfl)
          try simp only [Act.put]
          go_wp2_with fail
          refine QK.normal ⟨⟨H24.out.env.rng 0 rfl, H24.out.env.rng 1 rfl⟩, ?_⟩
          refine' wpAnyH_one 8 (by kernel_rfl) ?_ ?_; rotate_left; (simp only [List.getElem?_toArray, List.getElem?_cons_zero, List.getElem?_cons_succ]; rfl)
          try simp only [Act.put]
          go_wp2_with fail
          refine QK.normal ⟨⟨H24.out.env.rng 0 rfl, H24.out.env.rng 1 rfl⟩, ?_⟩
          refine wpAnyH_done (by kernel_rfl) ?_ _
          refine NoPanic.normal ?_
          clear he
          go_wp2_with fail
          go_roundw
          case rel => exact ⟨i + 1, by omega, by go_num, Lib.hid ⟨readD x i, ⟨H24.out.tl, by rw [HRD.out.2.2.1]; exact ⟨HR.out.idle.out, HR.out.idle.arms, HR.out.idle.fails⟩, by rw [HRD.out.2.2.1]; exact HR.out.size, by rw [HRD.out.2.2.1]; exact HR.out.holds, readD_ok HR.out.ok i⟩⟩⟩
          case measure => simp [intOf]; omega
        · go_wp2_with fail
          go_ret
          exact ⟨rfl, HR.out.env.env.b⟩
    · skip
      go_wp2_with (first
        | ((with_reducible refine wpList_store_blk w10 rfl 30 (.tmp 7) (.tmp 58) rfl w3.heap.size 30 (rC y fm (.slice so st.length sc)) (rC (crashD [] y) fm2 (.slice z2o st2.length z2c)) (H10.out.env.at 0 rfl) rfl rfl HLZ.out HIZ.out HOZ.out ?_); intro w11 hb hc hs; have H11 := Lib.hid (H10.out.put 0 rfl hb hc); clear hb hc hs))
      go_loopw [61] (fun c wr => ∃ i : Nat, (i : Int) ≤ 8 ∧ c = .int .i64 i ∧ Hid (∃ x, FolI w w2 q n F2 w3.heap.size (crashD [] y) fm2 (.slice z2o st2.length z2c) st2 x (60 + i) wr)) (fun c _ => (8 : Int).toNat - (intOf c).toNat)
      case atStart => exact ⟨0, by omega, rfl, Lib.hid ⟨crashD [] y, ⟨H11.out, ⟨rfl, rfl, rfl⟩, HZ.out.1, fun _ => rfl, crashD_ok HZ.out.2.1 _⟩⟩⟩
      case round =>
        obtain ⟨i, hi, rfl, HR⟩ := hrel
        obtain ⟨x, HR⟩ := HR.out
        replace HR := Lib.hid HR
        clear H11
        by_cases hlt : (i : Int) < 8
        · have hi0 : (0 : Int) ≤ (i : Int) := by omega
          have hiN : (i : Int) < n := by omega
          have hi8 : i < 8 := by omega
          have HIX : (i : Int) < x.size := by rw [HR.out.size]; exact hiN
          obtain ⟨bb, hbb⟩ : ∃ bb, x.holds i = bb := ⟨_, rfl⟩
          have hbB : IsB bb := by rw [← hbb]; exact HR.out.ok.holdsB i
          have HZB := Lib.hid (show (crashD [] y).holds i = bb from by rw [← HR.out.holds i]; exact hbb)
          have HIB := Lib.hid (infoB hbB)
          have HLB := Lib.hid (lenB' hbB)
          have HE := Lib.hid (fun w => eq_blocks w bb bb true hbB hbB (decide_eq_true rfl))
          have HRD := Lib.hid (show readB x i = bb ∧ askE x i false = 0 ∧ readD x i = { x with ops := x.ops + 1 } ∧ (i : Int) < x.size from ⟨(idle_readB HR.out.idle hi0 HIX).trans hbb, idle_ok HR.out.idle _ hi0 HIX, idle_read HR.out.idle hi0 HIX, HIX⟩)
          clear hbb hbB HIX
          go_wp2_with fail
          refine (read_duo i bb 0 (60 + i) _ HR.out.env.env.duo HR.out.ok (by omega) rfl HRD.out.2.1 HRD.out.1).mono ?_
          rintro e w20 ⟨rfl, hd⟩
          have H20 := Lib.hid (HR.out.env.did hd)
          clear hd
          go_wp2_with (first
            | ((with_reducible refine wpList_alloc_blk w20 rfl 39 rfl (ofK .u8 zer) Try.zeroBl ?_); intro w21 hb hbel hsz; have H21 := Lib.hid (H20.out.new hb hbel hsz); clear hb hbel hsz)
            | ((with_reducible refine wpList_store_blk w21 rfl 39 (.tmp 10) (.tmp 68) rfl w20.heap.size 39 (ofK .u8 zer) (ofK .u8 bb) (H21.out.env.at 0 rfl) rfl rfl HLB.out HIB.out (one_ofK _ _) ?_); intro w22 hb hc hs; have H22 := Lib.hid (H21.out.put 0 rfl hb hc); clear hb hc hs))
          have H23 := Lib.hid (H22.out.below (Below.refl _ w22).drew)
          refine wp_region_takes (fun w' => w'.rangeAt w20.heap.size 0 (ofK .u8 bb) ∧ w'.rangeAt w3.heap.size 0 (rC (crashD [] y) fm2 (.slice z2o st2.length z2c))) [0, 1, 2, 3, 4, 5] 3 (by kernel_rfl) rfl (by kernel_rfl) (by kernel_rfl) ⟨H23.out.env.rng 0 rfl, H23.out.env.rng 1 rfl⟩ ?_
          generalize w22.drew = v0 at H23 ⊢
          clear H20 H21 H22
          iterate 3 (refine' HeldL.run ?_ ?_ ?_ ?_; rotate_left 2; (simp only [List.getElem?_toArray, List.getElem?_cons_zero, List.getElem?_cons_succ]; rfl); rfl; (rintro w' ⟨k0, k1⟩; go_simp; with_reducible rfl); simp only [Act.put, List.setIfInBounds_toArray, List.set_cons_zero, List.set_cons_succ])
          refine' HeldL.run ?_ ?_ ?_ ?_; rotate_left 2; (simp only [List.getElem?_toArray, List.getElem?_cons_zero, List.getElem?_cons_succ]; rfl); rfl; (rintro w' ⟨k0, k1⟩; exact exec_load_mid rfl rfl k0 Try.underlying39 rfl HIB.out); simp only [Act.put, List.setIfInBounds_toArray, List.set_cons_zero, List.set_cons_succ]
          refine' HeldL.run ?_ ?_ ?_ ?_; rotate_left 2; (simp only [List.getElem?_toArray, List.getElem?_cons_zero, List.getElem?_cons_succ]; rfl); rfl; (rintro w' ⟨k0, k1⟩; exact exec_load_mid rfl rfl k1 Try.underlying30 rfl HIZ.out); simp only [Act.put, List.setIfInBounds_toArray, List.set_cons_zero, List.set_cons_succ]
          iterate 1 (refine' HeldL.run ?_ ?_ ?_ ?_; rotate_left 2; (simp only [List.getElem?_toArray, List.getElem?_cons_zero, List.getElem?_cons_succ]; rfl); rfl; (rintro w' ⟨k0, k1⟩; go_simp; with_reducible rfl); simp only [Act.put, List.setIfInBounds_toArray, List.set_cons_zero, List.set_cons_succ])
          refine' wpAnyH_one 6 (by kernel_rfl) ?_ ?_; rotate_left; (simp only [List.getElem?_toArray, List.getElem?_cons_zero, List.getElem?_cons_succ]; rfl)
          try simp only [Act.put]
          go_wp2_with fail
          have hch := rholds_any (crashD [] y) fm2 _ st2 i v0 H23.out.told HZ.out.2.2.1.blk (by have := HZ.out.2.2.2; omega)
          rw [← HZ.out.2.2.1.holds, HZB.out] at hch
          refine hch.mono ?_
          rintro e w24 ⟨rfl, hb24⟩
          have H24 := Lib.hid (H23.out.below hb24)
          clear hb24 hch H23
          try go_wp2_with fail
          refine QK.normal ⟨⟨H24.out.env.rng 0 rfl, H24.out.env.rng 1 rfl⟩, ?_⟩
          have he := HE.out
          refine' wpAnyH_one 7 (by kernel_rfl) ?_ ?_; rotate_left; (simp only [List.getElem?_toArray, List.getElem?_cons_zero, List.getElem?_cons_succ]; rfl)
          try simp only [Act.put]
          go_wp2_with fail
          refine QK.normal ⟨⟨H24.out.env.rng 0 rfl, H24.out.env.rng 1 rfl⟩, ?_⟩
          refine' wpAnyH_one 8 (by kernel_rfl) ?_ ?_; rotate_left; (simp only [List.getElem?_toArray, List.getElem?_cons_zero, List.getElem?_cons_succ]; rfl)
          try simp only [Act.put]
          go_wp2_with fail
          refine QK.normal ⟨⟨H24.out.env.rng 0 rfl, H24.out.env.rng 1 rfl⟩, ?_⟩
          refine wpAnyH_done (by kernel_rfl) ?_ _
          refine NoPanic.normal ?_
          clear he
          go_wp2_with fail
          go_roundw
          case rel => exact ⟨i + 1, by omega, by go_num, Lib.hid ⟨readD x i, ⟨H24.out.tl, by rw [HRD.out.2.2.1]; exact ⟨HR.out.idle.out, HR.out.idle.arms, HR.out.idle.fails⟩, by rw [HRD.out.2.2.1]; exact HR.out.size, by rw [HRD.out.2.2.1]; exact HR.out.holds, readD_ok HR.out.ok i⟩⟩⟩
          case measure => simp [intOf]; omega
        · go_wp2_with fail
          go_ret
          exact ⟨rfl, HR.out.env.env.b⟩
  · have hbad : n < 1 ∨ 2048 < n := by omega
    refine (new_bad n w1 hbad).mono ?_
    rintro e w' ⟨rfl, rfl⟩
    go_wp2_with fail
    refine (rnew_any n false w1 (by simp; omega)).mono ?_
    rintro e w3 ⟨rfl, hb3⟩
    have H3 := Lib.hid (below_thn hb1 hb3 (Nat.le_refl _))
    have HIN := Lib.hid (infoR (newD n) 0 (.slice none 0 0))
    have HLN := Lib.hid (lenR (newD n) 0 (.slice none 0 0))
    have HON := Lib.hid (oneR (newD n) 0 none 0 0)
    clear hb1 hb3 hbad hin
    go_wp2_with (first
      | ((with_reducible refine wpList_alloc_blk w3 rfl 30 rfl rZ Try.zeroRd ?_); intro w4 hb hbel hsz; have H4 := Lib.hid (And.intro hb (And.intro (below_thn H3.out hbel (Nat.le_refl _)) H3.out.size)); clear hb hbel hsz)
      | ((with_reducible refine wpList_store_blk w4 rfl 30 (.tmp 7) (.tmp 22) rfl w3.heap.size 30 rZ (rC (newD n) 0 (.slice none 0 0)) H4.out.1 rfl rfl HLN.out HIN.out HON.out ?_); intro w5 hb hc hs; have H5 := Lib.hid (below_ch H4.out.2.1 hc (Nat.le_refl _) (fun k hk => by have : k = w3.heap.size := hk; have := H4.out.2.2; omega)); clear hb hc hs))
    go_ret
    exact ⟨rfl, H5.out⟩

end Go.Proofs.Yticcjaccpcnjhaa
