/-
  The law DiskTwins, walked. Conditions: three rows of acts.
-/
import Derived.Test.YticcjaccpcnjhaaFollow
import Derived.Deep.CutRange
namespace Go.Proofs.Yticcjaccpcnjhaa
open Go Go.RowKit
set_option linter.unusedSimpArgs false

/-- two disks, each beside its story, and blocks that are known whole -/
structure Twn (w wr : World) (q : Nat) (x : Dk) (c : Nat) (y : Dk) (F : Nat → Prop) (bs : Bs) (svx : Value) (stx : List Wr) (svy : Value) (sty : List Wr) : Prop where
  env : EnvR w wr q x (some (c, y)) F bs
  tx : StAt wr svx stx
  rx : ∀ k, svx.ownBlock = some k → F k
  ty : StAt wr svy sty
  ry : ∀ k, svy.ownBlock = some k → F k

section
variable {w wr w' : World} {q q' c g : Nat} {x x' y : Dk} {F R7 : Nat → Prop} {bs : Bs} {svx svy sv' : Value} {stx sty st' : List Wr} {t : TypeId} {zs cs : List Value}
theorem Twn.swap (h : Twn w wr q x c y F bs svx stx svy sty) : Twn w wr c y q x F bs svy sty svx stx := ⟨h.env.swap, h.ty, h.ry, h.tx, h.rx⟩
theorem Twn.below (h : Twn w wr q x c y F bs svx stx svy sty) (hb : Below wr.heap.size wr w') : Twn w w' q x c y F bs svx stx svy sty := ⟨h.env.below hb, h.tx.below hb, h.rx, h.ty.below hb, h.ry⟩
theorem Twn.put (h : Twn w wr q x c y F bs svx stx svy sty) (i : Nat) (hi : bs[i]? = some (g, t, zs)) (hb : Blk w' g t cs) (hc : Ch (· = g) wr w') : Twn w w' q x c y F (bs.set i (g, t, cs)) svx stx svy sty :=
  ⟨h.env.put i hi hb hc, h.tx.keep hc (fun k hk e => h.env.ne i hi ((show k = g from e) ▸ h.rx k hk)), h.rx, h.ty.keep hc (fun k hk e => h.env.ne i hi ((show k = g from e) ▸ h.ry k hk)), h.ry⟩
theorem Twn.new (h : Twn w wr q x c y F bs svx stx svy sty) (hb : Blk w' wr.heap.size t zs) (hbel : Below wr.heap.size wr w') (hs : w'.heap.size = wr.heap.size + 1) : Twn w w' q x c y F ((wr.heap.size, t, zs) :: bs) svx stx svy sty :=
  ⟨h.env.new hb hbel hs, h.tx.below hbel, h.rx, h.ty.below hbel, h.ry⟩
theorem Twn.lives (h : Twn w wr q x c y F bs svx stx svy sty) (hd : Duo w w' q' x' (some (c, y)) R7) (hs : StAt w' sv' st') (hk : ∀ k, sv'.ownBlock = some k → R7 k ∧ (svx.ownBlock = some k ∨ wr.heap.size ≤ k)) (hsub : ∀ k, (F k ∨ k ∈ bs.map (·.1)) → R7 k) (hc : Ch (fun k => ¬ (F k ∨ k ∈ bs.map (·.1))) wr w') :
    Twn w w' q' x' c y (fun k => R7 k ∧ k ∉ bs.map (·.1)) bs sv' st' svy sty := by
  have e := EnvS.lives (w0 := wr) (R := (fun _ => False)) ⟨h.env, h.tx, h.rx, fun _ h => h.elim, Ch.refl _ _⟩ hd hs hk hsub hc
  exact ⟨e.env, e.told, e.row, h.ty.keep hc (fun k hk hn => hn (.inl (h.ry k hk))), fun k hk => ⟨hsub k (.inl (h.ry k hk)), fun hm => by
    obtain ⟨b, hb, rfl⟩ := List.mem_map.1 hm
    exact h.env.apart b hb (h.ry _ hk)⟩⟩
end

theorem EnvS.did' {w w0 wr w' : World} {p q : Nat} {x x' : Dk} {o o' : Option (Nat × Dk)} {R F : Nat → Prop} {bs : Bs} {sv : Value} {st : List Wr} (h : EnvS w w0 wr p x o R F bs sv st) (hd : Did w wr w' q x' o' (fun k => F k ∨ k ∈ bs.map (·.1))) : EnvS w w0 w' q x' o' R F bs sv st :=
  ⟨h.env.did hd, h.told.keep hd.2 (fun k hk hn => hn (.inl (h.row k hk))), h.row, h.sub, h.ch.trans' hd.2 (fun i _ hn hr => hn (.inl (h.sub i hr)))⟩

/-- a copy is made -/
theorem copy_duo {w wr : World} {p : Nat} {x : Dk} {R : Nat → Prop} (n : Nat) (h : Duo w wr p x none R) (hx : x.Ok n) (hn : n ≤ 1073741824) :
    Calls Try.prog 19 #[.pointer (some ⟨p, 0, none⟩)] wr (fun e w' => ∃ q, e = .returned (.pointer (some ⟨q, 0, none⟩)) ∧ Did w wr w' p x (some (q, x)) R) := by
  obtain ⟨S, T, g1, g2, g3, g4, g5, g6⟩ := h
  refine (copy_any p S x n wr g1 hx hn).mono ?_
  rintro e w' ⟨q, rfl, hd, hb⟩
  have hc := Ch.of_below (S := fun _ => False) hb (Nat.le_refl _)
  have := hb.size
  have := g6.size
  refine ⟨q, rfl, ⟨S, (fun k => wr.heap.size ≤ k ∧ k < w'.heap.size), g1.keep hc (fun _ _ h => h), hd, fun k hk => ⟨(g3 k hk).1, fun ht => ?_, (g3 k hk).2.2⟩, fun k hk => ⟨by omega, hk.2, fun hr => ?_⟩, fun k hk => ⟨(g5 k hk).1, ?_⟩, below_thn g6 hb (Nat.le_refl _)⟩, Ch.of_below hb (Nat.le_refl _)⟩
  · have := g1.bd k hk; omega
  · have := (g5 k hr).2; omega
  · have := (g5 k hk).2; omega

theorem Try.elemActs : Try.prog.elem 22 = 49 := by kernel_rfl

/-- one act of a row -/
theorem exec_slice_one {ev : Operand → Value} {op : Oper} {x lo hi : Operand} (ho : op.op = .slice 22 x (some lo) (some hi) none) {b o m c k : Nat} (hx : ev x = .slice (some ⟨b, o, none⟩) m c) (hlo : ev lo = .int .i64 k) (hhi : ev hi = .int .i64 (k + 1)) (h : k + 1 < c + 1) {w : World} :
    (execOp ev op).run Try.prog w = .ok (.value (.slice (some ⟨b, o + k * 5, none⟩) 1 (c - k))) w := by
  have hu : Try.prog.underlying 22 = some (.slice (Try.prog.elem 22)) := by rw [Try.elemActs]; exact Try.underlying22
  have h1 := run_slice_lh (P := Try.prog) w 22 (some ⟨b, o, none⟩) m c hu .i64 .i64 k (k + 1) (by omega) (by omega) (by omega)
  have e1 : ((k : Int) + 1).toNat = k + 1 := by omega
  have e2 : ((k : Int)).toNat = k := by omega
  have e3 : ¬ c = k := by omega
  have e4 : k + 1 - k = 1 := by omega
  have e5 : Addr.add ⟨b, o, none⟩ (k * 5) = ⟨b, o + k * 5, none⟩ := by unfold Addr.add; split <;> simp_all
  rw [Try.elemActs, Try.sizeAct] at h1
  simp only [Result.andThen, sliced, e1, e2, e3, if_false, e4, Option.map_some, e5] at h1
  simp [execOp, ho, hx, hlo, hhi, run_sliceAt_slice _ _ _ _ _ _ hu, h1, Result.andThen]
theorem slA_one {w : World} {b o c : Nat} {l : List (ActD × Value)} (hm : l.length ≤ c ∧ c ≤ 9223372036854775807) (hc : ∀ j (hj : j < l.length), w.rangeAt b (o + j * 5) (actC l[j].1 l[j].2)) (ho : ∀ y ∈ l, ∃ ao len cp, y.2 = .slice ao len cp ∧ ActOk w y.1 y.2) (k : Nat) (hk : k < l.length) : SlA w (.slice (some ⟨b, o + k * 5, none⟩) 1 (c - k)) [l[k]] :=
  ⟨some ⟨b, o + k * 5, none⟩, c - k, rfl, by simp; omega, by omega, fun _ => ⟨b, o + k * 5, rfl, fun j hj => by
    obtain rfl : j = 0 := by simpa using hj
    simpa using hc k hk⟩, fun y hy => by
    obtain rfl : y = l[k] := by simpa using hy
    exact ho _ (List.getElem_mem hk)⟩
/-- how the twins stand in the round -/
structure TwnI (w wr : World) (q : Nat) (x : Dk) (c : Nat) (y : Dk) (F : Nat → Prop) (B9 B13 : Nat) (fx fy : Nat) (svx : Value) (stx : List Wr) (svy : Value) (sty : List Wr) (N : Nat) : Prop where
  twn : Twn w wr q x c y F [(B13, 30, rC y fy svy), (B9, 30, rC x fx svx)] svx stx svy sty
  a : RefOf x stx fx ∧ x.Ok N ∧ stx.length ≤ N
  b : RefOf y sty fy ∧ y.Ok N ∧ sty.length ≤ N

theorem slA_open {w : World} {v : Value} {l : List (ActD × Value)} (h : SlA w v l) : ∃ a c, v = .slice a l.length c ∧ Hid ((0 < l.length → ∃ b o, a = some ⟨b, o, none⟩ ∧ ∀ j (hj : j < l.length), w.rangeAt b (o + j * 5) (actC l[j].1 l[j].2)) ∧ (l.length ≤ c ∧ c ≤ 9223372036854775807) ∧ ∀ y ∈ l, ∃ ao len cp, y.2 = .slice ao len cp ∧ ActOk w y.1 y.2) := by
  obtain ⟨a, c, rfl, h1, h2, h3, h4⟩ := h
  exact ⟨a, c, rfl, Lib.hid ⟨h3, ⟨h1, h2⟩, h4⟩⟩

set_option maxRecDepth 100000 in
set_option maxHeartbeats 16000000 in
theorem diskTwins_walk (v0 : Value) (l0 : List (ActD × Value)) (v1 : Value) (l1 : List (ActD × Value)) (v2 : Value) (l2 : List (ActD × Value)) (w : World) (s0 : SlA w v0 l0) (s1 : SlA w v1 l1) (s2 : SlA w v2 l2) : Calls Try.prog 4 #[v0, v1, v2] w (TrueP w) := by
  have HS := Lib.hid s0
  obtain ⟨a0, c0, rfl, -⟩ := slA_open s0
  obtain ⟨a1, c1, rfl, HL1⟩ := slA_open s1
  obtain ⟨a2, c2, rfl, HL2⟩ := slA_open s2
  clear s0 s1 s2
  have HIN := Lib.hid (infoR (newD 5) 0 (.slice none 0 0))
  have HLN := Lib.hid (lenR (newD 5) 0 (.slice none 0 0))
  have HON := Lib.hid (oneR (newD 5) 0 none 0 0)
  have HOK := Lib.hid (And.intro (newD_ok (n := 5) (by omega) (by omega) 0) (ref_new 5))
  go_enter Try.func4, Try.ntmps4
  go_wp2_with fail
  refine (wakes_any w).mono ?_
  rintro e w1 ⟨rfl, hb1⟩
  go_wp2_with fail
  refine (new_ok 5 w1 (by omega) (by omega)).mono ?_
  rintro e w2 ⟨p, rfl, hd2, hb2⟩
  have H2 := Lib.hid (EnvS.start (duo_start1 hb1 hd2 hb2).end)
  clear hb1 hd2 hb2
  go_wp2_with fail
  refine (rnew_any 5 true w2 (by simp)).mono ?_
  rintro e w3 ⟨rfl, hb3⟩
  have H3 := Lib.hid (H2.out.below hb3)
  clear hb3 H2
  go_wp2_with (first
    | ((with_reducible refine wpList_alloc_blk w3 rfl 30 rfl rZ Try.zeroRd ?_); intro w4 hb hbel hsz; have H4 := Lib.hid (H3.out.new hb hbel hsz); clear hb hbel hsz)
    | ((with_reducible refine wpList_store_blk w4 rfl 30 (.tmp 9) (.tmp 23) rfl w3.heap.size 30 (rZ) (rC (newD 5) 0 (.slice none 0 0)) (H4.out.env.at 0 rfl) rfl rfl HLN.out HIN.out HON.out ?_); intro w5 hb hc hs; have H5 := Lib.hid (H4.out.put 0 rfl hb hc); have HRN := Lib.hid (rangeW_blk hb); clear hb hc hs)
    | (with_reducible refine wpList_load_any rfl 30 (.tmp 9) rfl w3.heap.size 0 rfl (rC (newD 5) 0 (.slice none 0 0)) _ HRN.out Try.underlying30 rfl HIN.out ?_))
  refine (lived_any 0 0 _ [] _ l0 H5.out.env.duo H5.out.told (fun k e => .inl (H5.out.row k e)) HOK.out.2 HOK.out.1 (by omega) (by simp) HS.out).mono ?_
  rintro e w7 ⟨q, x, fx, svx, stx, R7, rfl, hd, hs, hk, hsub, _, hc, hr, hl, hok, _⟩
  obtain ⟨sxo, sxc, rfl, -⟩ := id hs
  obtain ⟨F7, H7⟩ : ∃ F7, Hid (EnvS w w2 w7 q x none (fun _ => False) F7 [(w3.heap.size, 30, rC (newD 5) 0 (.slice none 0 0))] (.slice sxo stx.length sxc) stx) := ⟨_, Lib.hid (H5.out.lives hd hs hk hsub hc)⟩
  have HX := Lib.hid (show RefOf x stx fx ∧ x.Ok 60 ∧ stx.length ≤ 60 from ⟨hr, by simpa using hok, by simpa using hl⟩)
  have HIX := Lib.hid (infoR x fx (.slice sxo stx.length sxc))
  have HLX := Lib.hid (show (rC x fx (.slice sxo stx.length sxc)).length = (rC (newD 5) 0 (.slice none 0 0)).length from rfl)
  have HLZ := Lib.hid (show (rC x fx (.slice sxo stx.length sxc)).length = rZ.length from rfl)
  have HOX := Lib.hid (oneR x fx sxo stx.length sxc)
  clear hd hs hk hsub hc hr hl hok H3 H4 H5 HRN
  go_wp2_with (first
    | ((with_reducible refine wpList_store_blk w7 rfl 30 (.tmp 9) (.tmp 37) rfl w3.heap.size 30 (rC (newD 5) 0 (.slice none 0 0)) (rC x fx (.slice sxo stx.length sxc)) (H7.out.env.at 0 rfl) rfl rfl HLX.out HIX.out HOX.out ?_); intro w8 hb hc hs; have H8 := Lib.hid (H7.out.put 0 rfl hb hc); clear hb hc hs))
  refine (copy_duo 60 H8.out.env.duo HX.out.2.1 (by omega)).mono ?_
  rintro e w9 ⟨qc, rfl, hd9⟩
  have H9 := Lib.hid (H8.out.did' hd9)
  have HRX := Lib.hid (show w9.rangeAt w3.heap.size 0 (rC x fx (.slice sxo stx.length sxc)) from H9.out.env.rng 0 rfl)
  clear hd9 H7 H8
  go_wp2_with (first
    | (with_reducible refine wpList_load_any rfl 30 (.tmp 9) rfl w3.heap.size 0 rfl (rC x fx (.slice sxo stx.length sxc)) _ HRX.out Try.underlying30 rfl HIX.out ?_))
  refine (stands_any fx 60 _ stx H9.out.env.duo.swap H9.out.told HX.out.1 HX.out.2.1 (by omega) (by have := HX.out.2.2; omega)).mono ?_
  rintro e w10 ⟨rfl, hb10⟩
  have H10 := Lib.hid (H9.out.below hb10)
  have HRX := Lib.hid (show w10.rangeAt w3.heap.size 0 (rC x fx (.slice sxo stx.length sxc)) from H10.out.env.rng 0 rfl)
  clear hb10 H9
  go_wp2_with (first
    | (with_reducible refine wpList_load_any rfl 30 (.tmp 9) rfl w3.heap.size 0 rfl (rC x fx (.slice sxo stx.length sxc)) _ HRX.out Try.underlying30 rfl HIX.out ?_)
    | ((with_reducible refine wpList_alloc_blk w10 rfl 30 rfl rZ Try.zeroRd ?_); intro w11 hb hbel hsz; have H11 := Lib.hid (H10.out.new hb hbel hsz); clear hb hbel hsz)
    | ((with_reducible refine wpList_store_blk w11 rfl 30 (.tmp 13) (.tmp 53) rfl w10.heap.size 30 (rZ) (rC x fx (.slice sxo stx.length sxc)) (H11.out.env.at 0 rfl) rfl rfl HLZ.out HIX.out HOX.out ?_); intro w12 hb hc hs; have H12 := Lib.hid (H11.out.put 0 rfl hb hc); clear hb hc hs))
  refine (few_any a1 l1.length c1 w12 HL1.out.2.1.1 HL1.out.2.1.2).mono ?_
  rintro e w' ⟨rfl, rfl⟩
  go_wp2_with fail
  refine (few_any a2 l2.length c2 w12 HL2.out.2.1.1 HL2.out.2.1.2).mono ?_
  rintro e w' ⟨rfl, rfl⟩
  obtain ⟨m1, hm1⟩ : ∃ m, m = min l1.length 60 := ⟨_, rfl⟩
  obtain ⟨m2, hm2⟩ : ∃ m, m = min l2.length 60 := ⟨_, rfl⟩
  rw [← hm1, ← hm2]
  have hM1 : m1 ≤ l1.length := by omega
  have hM2 : m2 ≤ l2.length := by omega
  have hN1 : m1 ≤ 60 := by omega
  have hN2 : m2 ≤ 60 := by omega
  clear hm1 hm2
  have HT12 := Lib.hid (show Twn w w12 q x qc x F7 [(w10.heap.size, 30, rC x fx (.slice sxo stx.length sxc)), (w3.heap.size, 30, rC x fx (.slice sxo stx.length sxc))] (.slice sxo stx.length sxc) stx (.slice sxo stx.length sxc) stx from ⟨H12.out.env, H12.out.told, H12.out.row, H12.out.told, H12.out.row⟩)
  clear H10 H11 H12 HRX
  obtain ⟨M, hM⟩ : ∃ M, M = max m1 m2 := ⟨_, rfl⟩
  have HMM := Lib.hid hM
  go_upto_region 13 with fail
  go_cut [62, 63] from 54 (fun c d wd => c = .int .i64 M ∧ d = .int .i64 0 ∧ w12 = wd)
  case first =>
    by_cases hlt : m1 < m2
    · have hlt' : (m1 : Int) < (m2 : Int) := by omega
      have hMe : M = m2 := by omega
      clear hM HMM
      subst hMe
      go_wp2_with fail
      go_meet
      exact ⟨rfl, rfl, rfl⟩
    · have hlt' : ¬ (m1 : Int) < (m2 : Int) := by omega
      have hMe : M = m1 := by omega
      clear hM HMM
      subst hMe
      go_wp2_with fail
      go_meet
      exact ⟨rfl, rfl, rfl⟩
  case rest =>
  obtain ⟨rfl, rfl, rfl⟩ := hcut
  have hM60 : M ≤ 60 := by omega
  clear hM
  go_wp2_with fail
  go_loopw [7, 12, 63] (fun d c i wr => ∃ (k q qc : Nat), k ≤ M ∧ d = .pointer (some ⟨q, 0, none⟩) ∧ c = .pointer (some ⟨qc, 0, none⟩) ∧ i = .int .i64 k ∧ Hid (∃ x y F fx fy svx stx svy sty, TwnI w wr q x qc y F w3.heap.size w10.heap.size fx fy svx stx svy sty (60 * (k + 1)))) (fun _ _ i _ => M - (intOf i).toNat)
  case atStart => exact ⟨0, q, qc, by omega, rfl, rfl, rfl, Lib.hid ⟨x, x, F7, fx, fx, _, stx, _, stx, ⟨HT12.out, HX.out, HX.out⟩⟩⟩
  case round =>
    clear HT12 HX HIX HLX HLZ HOX HIN HLN HON HOK HS
    obtain ⟨k, q, qc, hk, rfl, rfl, rfl, HR⟩ := hrel
    obtain ⟨x, y, Fw, fx, fy, svx, stx, svy, sty, HR⟩ := HR.out
    obtain ⟨sxo, sxc, rfl, -⟩ := id HR.twn.tx
    obtain ⟨syo, syc, rfl, -⟩ := id HR.twn.ty
    have HT0 := Lib.hid HR.twn
    have HXa := Lib.hid HR.a
    have HXb := Lib.hid HR.b
    clear HR
    by_cases hlt : k < M
    · have hkM : (k : Int) < (M : Int) := by omega
      have hk0 : (0 : Int) ≤ (k : Int) := by omega
      have hwk : IntKind.i64.wrap ((k : Int) + 1) = (k : Int) + 1 := IntWalk.i64_in _ (by omega)
      by_cases hA : k < m1
      · have hA1 : (k : Int) < (m1 : Int) := by omega
        by_cases hB : k < m2
        · have hB1 : (k : Int) < (m2 : Int) := by omega
          go_wp2_with fail
          have HW := Lib.hid (HT0.out.below (Below.refl _ wr).drew)
          obtain ⟨gb, gp, hga, hgc⟩ := HL1.out.1 (by omega)
          have HSL := Lib.hid (slA_one HL1.out.2.1 hgc HL1.out.2.2 k (by omega))
          have hlc := HL1.out.2.1.1
          subst hga
          refine wp_region_takes (fun _ => True) [0, 2, 3, 4, 5, 6] 9 (by kernel_rfl) rfl (by kernel_rfl) (by kernel_rfl) trivial ?_
          generalize wr.drew = v0 at HW ⊢
          iterate 5 (refine' HeldL.run ?_ ?_ ?_ ?_; rotate_left 2; (simp only [List.getElem?_toArray, List.getElem?_cons_zero, List.getElem?_cons_succ]; rfl); rfl; (rintro w' -; go_simp; with_reducible rfl); simp only [Act.put, List.setIfInBounds_toArray, List.set_cons_zero, List.set_cons_succ])
          refine' HeldL.run ?_ ?_ ?_ ?_; rotate_left 2; (simp only [List.getElem?_toArray, List.getElem?_cons_zero, List.getElem?_cons_succ]; rfl); rfl; (rintro w' -; exact exec_slice_one rfl rfl rfl rfl (by omega)); simp only [Act.put, List.setIfInBounds_toArray, List.set_cons_zero, List.set_cons_succ]
          refine' wpAnyH_one 1 (by kernel_rfl) ?_ ?_; rotate_left; (simp only [List.getElem?_toArray, List.getElem?_cons_zero, List.getElem?_cons_succ]; rfl)
          have HRX := Lib.hid (show v0.rangeAt w3.heap.size 0 (rC x fx (.slice sxo stx.length sxc)) from HW.out.env.rng 1 rfl)
          refine wpList_load_any rfl 30 (.tmp 9) rfl w3.heap.size 0 rfl (rC x fx (.slice sxo stx.length sxc)) _ HRX.out Try.underlying30 rfl (infoR _ _ _) ?_
          simp only [Act.put, List.setIfInBounds_toArray, List.set_cons_zero, List.set_cons_succ]
          refine QK.normal ⟨trivial, ?_⟩
          refine' wpAnyH_one 7 (by kernel_rfl) ?_ ?_; rotate_left; (simp only [List.getElem?_toArray, List.getElem?_cons_zero, List.getElem?_cons_succ]; rfl)
          try simp only [Act.put]
          go_wp2_with fail
          refine (lived_any fx _ (.slice sxo stx.length sxc) stx _ _ HW.out.env.duo HW.out.tx (fun k e => .inl (HW.out.rx k e)) HXa.out.1 HXa.out.2.1 (by omega) (by have := HXa.out.2.2; omega) HSL.out).mono ?_
          rintro e w20 ⟨q2, z, fz, svz, stz, R7, rfl, hd, hs, hk, hsub, _, hc, hr, hl, hok, _⟩
          obtain ⟨szo, szc, rfl, -⟩ := id hs
          have HT := Lib.hid ((HW.out.lives hd hs hk hsub hc))
          have HZa := Lib.hid (show RefOf z stz fz ∧ z.Ok (60 * (k + 2)) ∧ stz.length ≤ 60 * (k + 2) from ⟨hr, hok.mono (by omega), by have := HXa.out.2.2; omega⟩)
          have HIN := Lib.hid (infoR z fz (.slice szo stz.length szc))
          have HON := Lib.hid (oneR z fz szo stz.length szc)
          clear hd hs hk hsub hc hr hl hok
          try go_wp2_with fail
          refine QK.normal ⟨trivial, ?_⟩
          refine wpAnyH_takes (fuel := 3) (by kernel_rfl) noPanic_any trivial [8, 9, 10, 11] _ _ (by kernel_rfl) ?_
          try simp only [Act.put]
          iterate 4 (refine' HeldL.run ?_ ?_ ?_ ?_; rotate_left 2; (simp only [List.getElem?_toArray, List.getElem?_cons_zero, List.getElem?_cons_succ]; rfl); rfl; (rintro w' -; go_simp; with_reducible rfl); simp only [Act.put, List.setIfInBounds_toArray, List.set_cons_zero, List.set_cons_succ])
          refine' wpAnyH_one 12 (by kernel_rfl) ?_ ?_; rotate_left; (simp only [List.getElem?_toArray, List.getElem?_cons_zero, List.getElem?_cons_succ]; rfl)
          try simp only [Act.put]
          go_wp2_with fail
          refine QK.normal ⟨trivial, ?_⟩
          refine' wpAnyH_one 13 (by kernel_rfl) ?_ ?_; rotate_left; (simp only [List.getElem?_toArray, List.getElem?_cons_zero, List.getElem?_cons_succ]; rfl)
          try simp only [Act.put]
          refine wpList_store_blk w20 rfl 30 (.tmp 9) (.tmp 80) rfl w3.heap.size 30 (rC x fx (.slice sxo stx.length sxc)) (rC z fz (.slice szo stz.length szc)) (HT.out.env.at 1 rfl) rfl rfl rfl HIN.out HON.out ?_
          intro w21 hb hc hs
          have H21 := Lib.hid (HT.out.put 1 rfl hb hc)
          clear hb hc hs
          simp only [Act.put, List.setIfInBounds_toArray, List.set_cons_zero, List.set_cons_succ]
          refine QK.normal ⟨trivial, ?_⟩
          refine' wpAnyH_one 14 (by kernel_rfl) ?_ ?_; rotate_left; (simp only [List.getElem?_toArray, List.getElem?_cons_zero, List.getElem?_cons_succ]; rfl)
          try simp only [Act.put]
          go_wp2_with fail
          refine QK.normal ⟨trivial, ?_⟩
          refine wpAnyH_done (by kernel_rfl) ?_ _
          refine NoPanic.normal ?_
          clear HW HT HRX HIN HON HSL hlc hgc
          go_wp2_with fail
          have HW := Lib.hid (H21.out.below (Below.refl _ w21).drew)
          obtain ⟨gb, gp, hga, hgc⟩ := HL2.out.1 (by omega)
          have HSL := Lib.hid (slA_one HL2.out.2.1 hgc HL2.out.2.2 k (by omega))
          have hlc := HL2.out.2.1.1
          subst hga
          refine wp_region_takes (fun _ => True) [0, 2, 3, 4, 5, 6] 9 (by kernel_rfl) rfl (by kernel_rfl) (by kernel_rfl) trivial ?_
          generalize w21.drew = v0 at HW ⊢
          iterate 5 (refine' HeldL.run ?_ ?_ ?_ ?_; rotate_left 2; (simp only [List.getElem?_toArray, List.getElem?_cons_zero, List.getElem?_cons_succ]; rfl); rfl; (rintro w' -; go_simp; with_reducible rfl); simp only [Act.put, List.setIfInBounds_toArray, List.set_cons_zero, List.set_cons_succ])
          refine' HeldL.run ?_ ?_ ?_ ?_; rotate_left 2; (simp only [List.getElem?_toArray, List.getElem?_cons_zero, List.getElem?_cons_succ]; rfl); rfl; (rintro w' -; exact exec_slice_one rfl rfl rfl rfl (by omega)); simp only [Act.put, List.setIfInBounds_toArray, List.set_cons_zero, List.set_cons_succ]
          refine' wpAnyH_one 1 (by kernel_rfl) ?_ ?_; rotate_left; (simp only [List.getElem?_toArray, List.getElem?_cons_zero, List.getElem?_cons_succ]; rfl)
          have HRX := Lib.hid (show v0.rangeAt w10.heap.size 0 (rC y fy (.slice syo sty.length syc)) from HW.out.env.rng 0 rfl)
          refine wpList_load_any rfl 30 (.tmp 13) rfl w10.heap.size 0 rfl (rC y fy (.slice syo sty.length syc)) _ HRX.out Try.underlying30 rfl (infoR _ _ _) ?_
          simp only [Act.put, List.setIfInBounds_toArray, List.set_cons_zero, List.set_cons_succ]
          refine QK.normal ⟨trivial, ?_⟩
          refine' wpAnyH_one 7 (by kernel_rfl) ?_ ?_; rotate_left; (simp only [List.getElem?_toArray, List.getElem?_cons_zero, List.getElem?_cons_succ]; rfl)
          try simp only [Act.put]
          go_wp2_with fail
          refine (lived_any fy _ (.slice syo sty.length syc) sty _ _ HW.out.swap.env.duo HW.out.swap.tx (fun k e => .inl (HW.out.swap.rx k e)) HXb.out.1 HXb.out.2.1 (by omega) (by have := HXb.out.2.2; omega) HSL.out).mono ?_
          rintro e w22 ⟨q3, u, fu, svu, stu, R7, rfl, hd, hs, hk, hsub, _, hc, hr, hl, hok, _⟩
          obtain ⟨suo, suc, rfl, -⟩ := id hs
          have HT := Lib.hid ((HW.out.swap.lives hd hs hk hsub hc).swap)
          have HZb := Lib.hid (show RefOf u stu fu ∧ u.Ok (60 * (k + 2)) ∧ stu.length ≤ 60 * (k + 2) from ⟨hr, hok.mono (by omega), by have := HXb.out.2.2; omega⟩)
          have HIN := Lib.hid (infoR u fu (.slice suo stu.length suc))
          have HON := Lib.hid (oneR u fu suo stu.length suc)
          clear hd hs hk hsub hc hr hl hok
          try go_wp2_with fail
          refine QK.normal ⟨trivial, ?_⟩
          refine wpAnyH_takes (fuel := 3) (by kernel_rfl) noPanic_any trivial [8, 9, 10, 11] _ _ (by kernel_rfl) ?_
          try simp only [Act.put]
          iterate 4 (refine' HeldL.run ?_ ?_ ?_ ?_; rotate_left 2; (simp only [List.getElem?_toArray, List.getElem?_cons_zero, List.getElem?_cons_succ]; rfl); rfl; (rintro w' -; go_simp; with_reducible rfl); simp only [Act.put, List.setIfInBounds_toArray, List.set_cons_zero, List.set_cons_succ])
          refine' wpAnyH_one 12 (by kernel_rfl) ?_ ?_; rotate_left; (simp only [List.getElem?_toArray, List.getElem?_cons_zero, List.getElem?_cons_succ]; rfl)
          try simp only [Act.put]
          go_wp2_with fail
          refine QK.normal ⟨trivial, ?_⟩
          refine' wpAnyH_one 13 (by kernel_rfl) ?_ ?_; rotate_left; (simp only [List.getElem?_toArray, List.getElem?_cons_zero, List.getElem?_cons_succ]; rfl)
          try simp only [Act.put]
          refine wpList_store_blk w22 rfl 30 (.tmp 13) (.tmp 98) rfl w10.heap.size 30 (rC y fy (.slice syo sty.length syc)) (rC u fu (.slice suo stu.length suc)) (HT.out.env.at 0 rfl) rfl rfl rfl HIN.out HON.out ?_
          intro w23 hb hc hs
          have H23 := Lib.hid (HT.out.put 0 rfl hb hc)
          clear hb hc hs
          simp only [Act.put, List.setIfInBounds_toArray, List.set_cons_zero, List.set_cons_succ]
          refine QK.normal ⟨trivial, ?_⟩
          refine' wpAnyH_one 14 (by kernel_rfl) ?_ ?_; rotate_left; (simp only [List.getElem?_toArray, List.getElem?_cons_zero, List.getElem?_cons_succ]; rfl)
          try simp only [Act.put]
          go_wp2_with fail
          refine QK.normal ⟨trivial, ?_⟩
          refine wpAnyH_done (by kernel_rfl) ?_ _
          refine NoPanic.normal ?_
          clear HW HT HRX HIN HON HSL hlc hgc
          obtain ⟨Fn, HT⟩ : ∃ Fn, Hid (Twn w w23 q2 z q3 u Fn [(w10.heap.size, 30, rC u fu (.slice suo stu.length suc)), (w3.heap.size, 30, rC z fz (.slice szo stz.length szc))] (.slice szo stz.length szc) stz (.slice suo stu.length suc) stu) := ⟨_, H23⟩
          have HRX := Lib.hid (show w23.rangeAt w3.heap.size 0 (rC z fz (.slice szo stz.length szc)) from HT.out.env.rng 1 rfl)
          have HIX := Lib.hid (infoR z fz (.slice szo stz.length szc))
          have HIY := Lib.hid (infoR u fu (.slice suo stu.length suc))
          go_wp2_with (first
            | (with_reducible refine wpList_load_any rfl 30 (.tmp 9) rfl w3.heap.size 0 rfl (rC z fz (.slice szo stz.length szc)) _ HRX.out Try.underlying30 rfl HIX.out ?_))
          refine (stands_any fz (60 * (k + 2)) _ stz HT.out.env.duo HT.out.tx HZa.out.1 HZa.out.2.1 (by omega) (by have := HZa.out.2.2; omega)).mono ?_
          rintro e w30 ⟨rfl, hb30⟩
          have H30 := Lib.hid (HT.out.below hb30)
          have HRY := Lib.hid (show w30.rangeAt w10.heap.size 0 (rC u fu (.slice suo stu.length suc)) from H30.out.env.rng 0 rfl)
          clear hb30
          go_wp2_with (first
            | (with_reducible refine wpList_load_any rfl 30 (.tmp 13) rfl w10.heap.size 0 rfl (rC u fu (.slice suo stu.length suc)) _ HRY.out Try.underlying30 rfl HIY.out ?_))
          refine (stands_any fu (60 * (k + 2)) _ stu H30.out.swap.env.duo H30.out.ty HZb.out.1 HZb.out.2.1 (by omega) (by have := HZb.out.2.2; omega)).mono ?_
          rintro e w31 ⟨rfl, hb31⟩
          have H31 := Lib.hid (H30.out.below hb31)
          clear hb31
          go_wp2_with fail
          go_roundw
          case rel => exact ⟨k + 1, q2, q3, by omega, rfl, rfl, by go_num, Lib.hid ⟨z, u, Fn, fz, fu, _, stz, _, stu, ⟨H31.out, HZa.out, HZb.out⟩⟩⟩
          case measure => simp [intOf]; omega
        · have hB1 : ¬ (k : Int) < (m2 : Int) := by omega
          go_wp2_with fail
          have HW := Lib.hid (HT0.out.below (Below.refl _ wr).drew)
          obtain ⟨gb, gp, hga, hgc⟩ := HL1.out.1 (by omega)
          have HSL := Lib.hid (slA_one HL1.out.2.1 hgc HL1.out.2.2 k (by omega))
          have hlc := HL1.out.2.1.1
          subst hga
          refine wp_region_takes (fun _ => True) [0, 2, 3, 4, 5, 6] 9 (by kernel_rfl) rfl (by kernel_rfl) (by kernel_rfl) trivial ?_
          generalize wr.drew = v0 at HW ⊢
          iterate 5 (refine' HeldL.run ?_ ?_ ?_ ?_; rotate_left 2; (simp only [List.getElem?_toArray, List.getElem?_cons_zero, List.getElem?_cons_succ]; rfl); rfl; (rintro w' -; go_simp; with_reducible rfl); simp only [Act.put, List.setIfInBounds_toArray, List.set_cons_zero, List.set_cons_succ])
          refine' HeldL.run ?_ ?_ ?_ ?_; rotate_left 2; (simp only [List.getElem?_toArray, List.getElem?_cons_zero, List.getElem?_cons_succ]; rfl); rfl; (rintro w' -; exact exec_slice_one rfl rfl rfl rfl (by omega)); simp only [Act.put, List.setIfInBounds_toArray, List.set_cons_zero, List.set_cons_succ]
          refine' wpAnyH_one 1 (by kernel_rfl) ?_ ?_; rotate_left; (simp only [List.getElem?_toArray, List.getElem?_cons_zero, List.getElem?_cons_succ]; rfl)
          have HRX := Lib.hid (show v0.rangeAt w3.heap.size 0 (rC x fx (.slice sxo stx.length sxc)) from HW.out.env.rng 1 rfl)
          refine wpList_load_any rfl 30 (.tmp 9) rfl w3.heap.size 0 rfl (rC x fx (.slice sxo stx.length sxc)) _ HRX.out Try.underlying30 rfl (infoR _ _ _) ?_
          simp only [Act.put, List.setIfInBounds_toArray, List.set_cons_zero, List.set_cons_succ]
          refine QK.normal ⟨trivial, ?_⟩
          refine' wpAnyH_one 7 (by kernel_rfl) ?_ ?_; rotate_left; (simp only [List.getElem?_toArray, List.getElem?_cons_zero, List.getElem?_cons_succ]; rfl)
          try simp only [Act.put]
          go_wp2_with fail
          refine (lived_any fx _ (.slice sxo stx.length sxc) stx _ _ HW.out.env.duo HW.out.tx (fun k e => .inl (HW.out.rx k e)) HXa.out.1 HXa.out.2.1 (by omega) (by have := HXa.out.2.2; omega) HSL.out).mono ?_
          rintro e w20 ⟨q2, z, fz, svz, stz, R7, rfl, hd, hs, hk, hsub, _, hc, hr, hl, hok, _⟩
          obtain ⟨szo, szc, rfl, -⟩ := id hs
          have HT := Lib.hid ((HW.out.lives hd hs hk hsub hc))
          have HZa := Lib.hid (show RefOf z stz fz ∧ z.Ok (60 * (k + 2)) ∧ stz.length ≤ 60 * (k + 2) from ⟨hr, hok.mono (by omega), by have := HXa.out.2.2; omega⟩)
          have HIN := Lib.hid (infoR z fz (.slice szo stz.length szc))
          have HON := Lib.hid (oneR z fz szo stz.length szc)
          clear hd hs hk hsub hc hr hl hok
          try go_wp2_with fail
          refine QK.normal ⟨trivial, ?_⟩
          refine wpAnyH_takes (fuel := 3) (by kernel_rfl) noPanic_any trivial [8, 9, 10, 11] _ _ (by kernel_rfl) ?_
          try simp only [Act.put]
          iterate 4 (refine' HeldL.run ?_ ?_ ?_ ?_; rotate_left 2; (simp only [List.getElem?_toArray, List.getElem?_cons_zero, List.getElem?_cons_succ]; rfl); rfl; (rintro w' -; go_simp; with_reducible rfl); simp only [Act.put, List.setIfInBounds_toArray, List.set_cons_zero, List.set_cons_succ])
          refine' wpAnyH_one 12 (by kernel_rfl) ?_ ?_; rotate_left; (simp only [List.getElem?_toArray, List.getElem?_cons_zero, List.getElem?_cons_succ]; rfl)
          try simp only [Act.put]
          go_wp2_with fail
          refine QK.normal ⟨trivial, ?_⟩
          refine' wpAnyH_one 13 (by kernel_rfl) ?_ ?_; rotate_left; (simp only [List.getElem?_toArray, List.getElem?_cons_zero, List.getElem?_cons_succ]; rfl)
          try simp only [Act.put]
          refine wpList_store_blk w20 rfl 30 (.tmp 9) (.tmp 80) rfl w3.heap.size 30 (rC x fx (.slice sxo stx.length sxc)) (rC z fz (.slice szo stz.length szc)) (HT.out.env.at 1 rfl) rfl rfl rfl HIN.out HON.out ?_
          intro w21 hb hc hs
          have H21 := Lib.hid (HT.out.put 1 rfl hb hc)
          clear hb hc hs
          simp only [Act.put, List.setIfInBounds_toArray, List.set_cons_zero, List.set_cons_succ]
          refine QK.normal ⟨trivial, ?_⟩
          refine' wpAnyH_one 14 (by kernel_rfl) ?_ ?_; rotate_left; (simp only [List.getElem?_toArray, List.getElem?_cons_zero, List.getElem?_cons_succ]; rfl)
          try simp only [Act.put]
          go_wp2_with fail
          refine QK.normal ⟨trivial, ?_⟩
          refine wpAnyH_done (by kernel_rfl) ?_ _
          refine NoPanic.normal ?_
          clear HW HT HRX HIN HON HSL hlc hgc
          have HXb2 := Lib.hid (show RefOf y sty fy ∧ y.Ok (60 * (k + 2)) ∧ sty.length ≤ 60 * (k + 2) from ⟨HXb.out.1, HXb.out.2.1.mono (by omega), by have := HXb.out.2.2; omega⟩)
          obtain ⟨Fn, HT⟩ : ∃ Fn, Hid (Twn w w21 q2 z qc y Fn [(w10.heap.size, 30, rC y fy (.slice syo sty.length syc)), (w3.heap.size, 30, rC z fz (.slice szo stz.length szc))] (.slice szo stz.length szc) stz (.slice syo sty.length syc) sty) := ⟨_, H21⟩
          have HRX := Lib.hid (show w21.rangeAt w3.heap.size 0 (rC z fz (.slice szo stz.length szc)) from HT.out.env.rng 1 rfl)
          have HIX := Lib.hid (infoR z fz (.slice szo stz.length szc))
          have HIY := Lib.hid (infoR y fy (.slice syo sty.length syc))
          go_wp2_with (first
            | (with_reducible refine wpList_load_any rfl 30 (.tmp 9) rfl w3.heap.size 0 rfl (rC z fz (.slice szo stz.length szc)) _ HRX.out Try.underlying30 rfl HIX.out ?_))
          refine (stands_any fz (60 * (k + 2)) _ stz HT.out.env.duo HT.out.tx HZa.out.1 HZa.out.2.1 (by omega) (by have := HZa.out.2.2; omega)).mono ?_
          rintro e w30 ⟨rfl, hb30⟩
          have H30 := Lib.hid (HT.out.below hb30)
          have HRY := Lib.hid (show w30.rangeAt w10.heap.size 0 (rC y fy (.slice syo sty.length syc)) from H30.out.env.rng 0 rfl)
          clear hb30
          go_wp2_with (first
            | (with_reducible refine wpList_load_any rfl 30 (.tmp 13) rfl w10.heap.size 0 rfl (rC y fy (.slice syo sty.length syc)) _ HRY.out Try.underlying30 rfl HIY.out ?_))
          refine (stands_any fy (60 * (k + 2)) _ sty H30.out.swap.env.duo H30.out.ty HXb2.out.1 HXb2.out.2.1 (by omega) (by have := HXb2.out.2.2; omega)).mono ?_
          rintro e w31 ⟨rfl, hb31⟩
          have H31 := Lib.hid (H30.out.below hb31)
          clear hb31
          go_wp2_with fail
          go_roundw
          case rel => exact ⟨k + 1, q2, qc, by omega, rfl, rfl, by go_num, Lib.hid ⟨z, y, Fn, fz, fy, _, stz, _, sty, ⟨H31.out, HZa.out, HXb2.out⟩⟩⟩
          case measure => simp [intOf]; omega
      · have hA1 : ¬ (k : Int) < (m1 : Int) := by omega
        have hB : k < m2 := by have := HMM.out; omega
        have hB1 : (k : Int) < (m2 : Int) := by omega
        go_wp2_with fail
        have HW := Lib.hid (HT0.out.below (Below.refl _ wr).drew)
        obtain ⟨gb, gp, hga, hgc⟩ := HL2.out.1 (by omega)
        have HSL := Lib.hid (slA_one HL2.out.2.1 hgc HL2.out.2.2 k (by omega))
        have hlc := HL2.out.2.1.1
        subst hga
        refine wp_region_takes (fun _ => True) [0, 2, 3, 4, 5, 6] 9 (by kernel_rfl) rfl (by kernel_rfl) (by kernel_rfl) trivial ?_
        generalize wr.drew = v0 at HW ⊢
        iterate 5 (refine' HeldL.run ?_ ?_ ?_ ?_; rotate_left 2; (simp only [List.getElem?_toArray, List.getElem?_cons_zero, List.getElem?_cons_succ]; rfl); rfl; (rintro w' -; go_simp; with_reducible rfl); simp only [Act.put, List.setIfInBounds_toArray, List.set_cons_zero, List.set_cons_succ])
        refine' HeldL.run ?_ ?_ ?_ ?_; rotate_left 2; (simp only [List.getElem?_toArray, List.getElem?_cons_zero, List.getElem?_cons_succ]; rfl); rfl; (rintro w' -; exact exec_slice_one rfl rfl rfl rfl (by omega)); simp only [Act.put, List.setIfInBounds_toArray, List.set_cons_zero, List.set_cons_succ]
        refine' wpAnyH_one 1 (by kernel_rfl) ?_ ?_; rotate_left; (simp only [List.getElem?_toArray, List.getElem?_cons_zero, List.getElem?_cons_succ]; rfl)
        have HRX := Lib.hid (show v0.rangeAt w10.heap.size 0 (rC y fy (.slice syo sty.length syc)) from HW.out.env.rng 0 rfl)
        refine wpList_load_any rfl 30 (.tmp 13) rfl w10.heap.size 0 rfl (rC y fy (.slice syo sty.length syc)) _ HRX.out Try.underlying30 rfl (infoR _ _ _) ?_
        simp only [Act.put, List.setIfInBounds_toArray, List.set_cons_zero, List.set_cons_succ]
        refine QK.normal ⟨trivial, ?_⟩
        refine' wpAnyH_one 7 (by kernel_rfl) ?_ ?_; rotate_left; (simp only [List.getElem?_toArray, List.getElem?_cons_zero, List.getElem?_cons_succ]; rfl)
        try simp only [Act.put]
        go_wp2_with fail
        refine (lived_any fy _ (.slice syo sty.length syc) sty _ _ HW.out.swap.env.duo HW.out.swap.tx (fun k e => .inl (HW.out.swap.rx k e)) HXb.out.1 HXb.out.2.1 (by omega) (by have := HXb.out.2.2; omega) HSL.out).mono ?_
        rintro e w22 ⟨q3, u, fu, svu, stu, R7, rfl, hd, hs, hk, hsub, _, hc, hr, hl, hok, _⟩
        obtain ⟨suo, suc, rfl, -⟩ := id hs
        have HT := Lib.hid ((HW.out.swap.lives hd hs hk hsub hc).swap)
        have HZb := Lib.hid (show RefOf u stu fu ∧ u.Ok (60 * (k + 2)) ∧ stu.length ≤ 60 * (k + 2) from ⟨hr, hok.mono (by omega), by have := HXb.out.2.2; omega⟩)
        have HIN := Lib.hid (infoR u fu (.slice suo stu.length suc))
        have HON := Lib.hid (oneR u fu suo stu.length suc)
        clear hd hs hk hsub hc hr hl hok
        try go_wp2_with fail
        refine QK.normal ⟨trivial, ?_⟩
        refine wpAnyH_takes (fuel := 3) (by kernel_rfl) noPanic_any trivial [8, 9, 10, 11] _ _ (by kernel_rfl) ?_
        try simp only [Act.put]
        iterate 4 (refine' HeldL.run ?_ ?_ ?_ ?_; rotate_left 2; (simp only [List.getElem?_toArray, List.getElem?_cons_zero, List.getElem?_cons_succ]; rfl); rfl; (rintro w' -; go_simp; with_reducible rfl); simp only [Act.put, List.setIfInBounds_toArray, List.set_cons_zero, List.set_cons_succ])
        refine' wpAnyH_one 12 (by kernel_rfl) ?_ ?_; rotate_left; (simp only [List.getElem?_toArray, List.getElem?_cons_zero, List.getElem?_cons_succ]; rfl)
        try simp only [Act.put]
        go_wp2_with fail
        refine QK.normal ⟨trivial, ?_⟩
        refine' wpAnyH_one 13 (by kernel_rfl) ?_ ?_; rotate_left; (simp only [List.getElem?_toArray, List.getElem?_cons_zero, List.getElem?_cons_succ]; rfl)
        try simp only [Act.put]
        refine wpList_store_blk w22 rfl 30 (.tmp 13) (.tmp 98) rfl w10.heap.size 30 (rC y fy (.slice syo sty.length syc)) (rC u fu (.slice suo stu.length suc)) (HT.out.env.at 0 rfl) rfl rfl rfl HIN.out HON.out ?_
        intro w23 hb hc hs
        have H23 := Lib.hid (HT.out.put 0 rfl hb hc)
        clear hb hc hs
        simp only [Act.put, List.setIfInBounds_toArray, List.set_cons_zero, List.set_cons_succ]
        refine QK.normal ⟨trivial, ?_⟩
        refine' wpAnyH_one 14 (by kernel_rfl) ?_ ?_; rotate_left; (simp only [List.getElem?_toArray, List.getElem?_cons_zero, List.getElem?_cons_succ]; rfl)
        try simp only [Act.put]
        go_wp2_with fail
        refine QK.normal ⟨trivial, ?_⟩
        refine wpAnyH_done (by kernel_rfl) ?_ _
        refine NoPanic.normal ?_
        clear HW HT HRX HIN HON HSL hlc hgc
        have HXa2 := Lib.hid (show RefOf x stx fx ∧ x.Ok (60 * (k + 2)) ∧ stx.length ≤ 60 * (k + 2) from ⟨HXa.out.1, HXa.out.2.1.mono (by omega), by have := HXa.out.2.2; omega⟩)
        obtain ⟨Fn, HT⟩ : ∃ Fn, Hid (Twn w w23 q x q3 u Fn [(w10.heap.size, 30, rC u fu (.slice suo stu.length suc)), (w3.heap.size, 30, rC x fx (.slice sxo stx.length sxc))] (.slice sxo stx.length sxc) stx (.slice suo stu.length suc) stu) := ⟨_, H23⟩
        have HRX := Lib.hid (show w23.rangeAt w3.heap.size 0 (rC x fx (.slice sxo stx.length sxc)) from HT.out.env.rng 1 rfl)
        have HIX := Lib.hid (infoR x fx (.slice sxo stx.length sxc))
        have HIY := Lib.hid (infoR u fu (.slice suo stu.length suc))
        go_wp2_with (first
          | (with_reducible refine wpList_load_any rfl 30 (.tmp 9) rfl w3.heap.size 0 rfl (rC x fx (.slice sxo stx.length sxc)) _ HRX.out Try.underlying30 rfl HIX.out ?_))
        refine (stands_any fx (60 * (k + 2)) _ stx HT.out.env.duo HT.out.tx HXa2.out.1 HXa2.out.2.1 (by omega) (by have := HXa2.out.2.2; omega)).mono ?_
        rintro e w30 ⟨rfl, hb30⟩
        have H30 := Lib.hid (HT.out.below hb30)
        have HRY := Lib.hid (show w30.rangeAt w10.heap.size 0 (rC u fu (.slice suo stu.length suc)) from H30.out.env.rng 0 rfl)
        clear hb30
        go_wp2_with (first
          | (with_reducible refine wpList_load_any rfl 30 (.tmp 13) rfl w10.heap.size 0 rfl (rC u fu (.slice suo stu.length suc)) _ HRY.out Try.underlying30 rfl HIY.out ?_))
        refine (stands_any fu (60 * (k + 2)) _ stu H30.out.swap.env.duo H30.out.ty HZb.out.1 HZb.out.2.1 (by omega) (by have := HZb.out.2.2; omega)).mono ?_
        rintro e w31 ⟨rfl, hb31⟩
        have H31 := Lib.hid (H30.out.below hb31)
        clear hb31
        go_wp2_with fail
        go_roundw
        case rel => exact ⟨k + 1, q, q3, by omega, rfl, rfl, by go_num, Lib.hid ⟨x, u, Fn, fx, fu, _, stx, _, stu, ⟨H31.out, HXa2.out, HZb.out⟩⟩⟩
        case measure => simp [intOf]; omega
    · obtain rfl : k = M := by omega
      go_wp2_with fail
      go_ret
      exact ⟨rfl, HT0.out.env.b⟩

end Go.Proofs.Yticcjaccpcnjhaa
