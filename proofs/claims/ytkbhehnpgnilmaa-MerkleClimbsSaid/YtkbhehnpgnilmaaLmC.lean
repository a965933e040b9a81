/-
  Rows of keys, leaves and paths that come in; law 08: MerkleClimbs, walked. Conditions: bytes.
-/
import Derived.Test.YtkbhehnpgnilmaaMkL
import Derived.Test.YtkbhehnpgnilmaaFrameW
namespace Go.Proofs.Ytkbhehnpgnilmaa
open Go Go.RowKit Go.ChangeShapes Go.WideShapes Go.ChangeAt
set_option linter.unusedSimpArgs false

/-- a key, a leaf and a path -/
structure ClimbD where
  x : List Int
  n : Int
  v : Value
  p : List (List Int)
instance : Inhabited ClimbD := ⟨⟨[], 0, .slice none 0 0, []⟩⟩
def climbC (q : ClimbD) : List Value := ofK .u8 q.x ++ [.int .i64 q.n, q.v]
def ClimbOk (W : World) (q : ClimbD) : Prop := IsD q.x ∧ I64 q.n ∧ SlD W q.v q.p ∧ NilC q.v ∧ ∀ y ∈ q.p, IsD y
theorem climbC_len {q : ClimbD} (h : IsD q.x) : (climbC q).length = 34 := by unfold climbC; rw [List.length_append, length_ofK, h.1]; rfl
theorem climbC_one (x : List Int) (n : Int) (ao : Option Addr) (k c : Nat) (p : List (List Int)) : ∀ v ∈ climbC ⟨x, n, .slice ao k c, p⟩, v.oneCell' = true := fun v hv => by
  unfold climbC at hv
  rcases List.mem_append.1 hv with hv | hv
  · exact one_ofK _ _ v hv
  · simp at hv
    rcases hv with rfl | rfl <;> rfl
theorem climb_parts {w : World} {g : Nat} {q : ClimbD} (h : w.rangeAt g 0 (climbC q)) (hx : IsD q.x) : w.rangeAt g 0 (ofK .u8 q.x) ∧ w.cell? ⟨g, 32, none⟩ = some (.int .i64 q.n) ∧ w.cell? ⟨g, 33, none⟩ = some q.v := by
  have hl : (ofK .u8 q.x).length = 32 := by rw [length_ofK, hx.1]
  have hr : ∀ i, i < 2 → (climbC q)[32 + i]? = [Value.int .i64 q.n, q.v][i]? := fun i _ => by
    unfold climbC
    rw [List.getElem?_append_right (by omega), hl, show 32 + i - 32 = i by omega]
  refine ⟨fun j v hv => h j v ?_, ?_, ?_⟩
  · unfold climbC
    rw [List.getElem?_append_left (List.getElem?_eq_some_iff.1 hv).1]
    exact hv
  · exact (by simpa using h 32 (.int .i64 q.n) (hr 0 (by omega)))
  · exact (by simpa using h 33 q.v (hr 1 (by omega)))
theorem nil_own {w : World} {base e size n : Nat} {v : Value} {xs : List Value} (h : w.ownsRow base e size v n xs) : NilC v := fun c hc => by
  obtain ⟨_, ⟨h2, _⟩ | ⟨g, cap, C, hv, _⟩⟩ := h
  · rw [h2] at hc; cases hc; rfl
  · rw [hv] at hc; cases hc

section
variable {H : Type} {enc : TypeId × Value → H} {W : World}
theorem read_climb {t b e2 : TypeId} {f0 f1 f2 : Field} {fuel : Nat} {cs : List Value} {x : DataW H × List MemPlace} (hs : Try.prog.underlying t = some (.struct #[f0, f1, f2])) (hC : Try.prog.cellsOf t = 34)
    (o0 : f0.offset = 0) (o1 : f1.offset = 32) (o2 : f2.offset = 33) (c0 : Try.prog.cellsOf f0.type = 32) (c1 : Try.prog.cellsOf f1.type = 1) (c2 : Try.prog.cellsOf f2.type = 1)
    (u0 : Try.prog.underlying f0.type = some (.array 32 b)) (ub : Try.prog.underlying b = some (.int .u8)) (cb : Try.prog.cellsOf b = 1) (u1 : Try.prog.underlying f1.type = some (.int .i64)) (u2 : Try.prog.underlying f2.type = some (.slice e2)) (ue : Try.prog.underlying e2 = some (.array 32 b)) (ce : Try.prog.cellsOf e2 = 32)
    (h : DataW.trod enc Try.prog W 0 (fun _ => true) true fuel t cs = some x) : ∃ q, cs = climbC q ∧ ClimbOk W q := by
  obtain ⟨xs, n, _, hx, hlen, hxl, hfd⟩ := DataW.trod_struct hs h
  rw [hC] at hlen
  obtain ⟨A, v1, v2, rfl, hA⟩ : ∃ A v1 v2, cs = A ++ [v1, v2] ∧ A.length = 32 := by
    have hd : (cs.drop 32).length = 2 := by rw [List.length_drop, hlen]
    match hq : cs.drop 32, hd with
    | [p, q], _ => exact ⟨cs.take 32, p, q, by rw [← hq, List.take_append_drop], by rw [List.length_take, hlen]; rfl⟩
  have hx3 : xs.length = 3 := hxl
  have g0 := hfd 0 f0 rfl
  have g1 := hfd 1 f1 rfl
  have g2 := hfd 2 f2 rfl
  rw [List.getElem?_eq_getElem (by omega)] at g0 g1 g2
  rw [o0, c0, List.drop_zero, List.take_left' hA] at g0
  rw [o1, c1, List.drop_left' hA] at g1
  rw [o2, c2, List.drop_append, hA, List.drop_of_length_le (by omega)] at g2
  obtain ⟨y, rfl, hy⟩ := read_id u0 ub cb c0 g0
  obtain ⟨n1, e1, -, w1⟩ := DataW.trod_int u1 g1
  simp at e1
  subst e1
  have g2' : DataW.trod enc Try.prog W 0 (fun _ => true) true n f2.type [v2] = some (xs[2].1, xs[2].2) := g2
  obtain ⟨a, l, c, rfl⟩ : ∃ a l c, v2 = .slice a l c := by
    rcases Deep.open_slice u2 g2' with ⟨hcs, _⟩ | ⟨a, l, c, _, _, _, _, hcs, _⟩
    · simp at hcs; exact ⟨_, _, _, hcs⟩
    · simp at hcs; exact ⟨_, _, _, hcs⟩
  obtain ⟨pl, h1, h2, h3⟩ := read_ids (v := .slice a l c) u2 ue ub cb ce ⟨a, l, c, rfl⟩ ⟨n, g2'⟩
  exact ⟨⟨y, n1, .slice a l c, pl⟩, rfl, hy, wf_i64 w1, h1, h2, h3⟩
theorem read_climbs {t e b e2 : TypeId} {f0 f1 f2 : Field} {v : Value} {d : DataW H} {p : List MemPlace} (ht : Try.prog.underlying t = some (.slice e)) (hs : Try.prog.underlying e = some (.struct #[f0, f1, f2])) (hC : Try.prog.cellsOf e = 34)
    (o0 : f0.offset = 0) (o1 : f1.offset = 32) (o2 : f2.offset = 33) (c0 : Try.prog.cellsOf f0.type = 32) (c1 : Try.prog.cellsOf f1.type = 1) (c2 : Try.prog.cellsOf f2.type = 1)
    (u0 : Try.prog.underlying f0.type = some (.array 32 b)) (ub : Try.prog.underlying b = some (.int .u8)) (cb : Try.prog.cellsOf b = 1) (u1 : Try.prog.underlying f1.type = some (.int .i64)) (u2 : Try.prog.underlying f2.type = some (.slice e2)) (ue : Try.prog.underlying e2 = some (.array 32 b)) (ce : Try.prog.cellsOf e2 = 32)
    (hv : ∃ a len cap, v = .slice a len cap) (h : DataW.Trod enc Try.prog W 0 (fun _ => true) true t v d p) : ∃ l : List ClimbD, SlF W v 34 climbC l ∧ NilC v ∧ ∀ a ∈ l, ClimbOk W a :=
  read_fixed 34 (by omega) climbC (ClimbOk W) ht hC (fun a h => climbC_len h.1) (fun _ _ _ h => read_climb hs hC o0 o1 o2 c0 c1 c2 u0 ub cb u1 u2 ue ce h) hv h
end

theorem SlD.stay {w w1 w2 : World} {g : Nat} {v : Value} {l : List (List Int)} (h : SlD w v l) (hD : ∀ x ∈ l, IsD x) (hb : Below w.heap.size w w1) (hc : Ch (· = g) w1 w2) (hg : w.heap.size ≤ g) : SlD w2 v l := by
  obtain ⟨ao, c, e, h2, h3, h4⟩ := h
  refine ⟨ao, c, e, h2, h3, fun h0 => ?_⟩
  obtain ⟨b, o, h5, h6⟩ := h4 h0
  refine ⟨b, o, h5, fun k hk => rangeW_ch (rangeW_below (h6 k hk) hb) hc (fun e => ?_)⟩
  have h7 := h6 k hk 0 _ (by rw [get_ofK _ _ _ (by rw [(hD _ (List.getElem_mem hk)).1]; omega)])
  have h8 : b < w.heap.size := block_of_cell h7
  have e : b = g := e
  omega

def zerC8 : List Value := climbC ⟨zer32, 0, .slice none 0 0, []⟩
theorem Try.zeroC8 : ∀ w, (zeroValue 83).run Try.prog w = .ok (.agg zerC8.toArray) w := fun w => by kernel_rfl
theorem Try.infoC8 : (Try.prog.info? 83).map (·.size) = some 34 := by kernel_rfl

set_option maxRecDepth 100000 in
set_option maxHeartbeats 16000000 in
theorem merkleClimbs_walk (v : Value) (r : List ClimbD) (a b : List Int) (w : World) (hv : SlF w v 34 climbC r) (hr : NilC v ∧ ∀ q ∈ r, ClimbOk w q) (la : a.length = 32) (ba : AllB a) (lb : b.length = 32) (bb : AllB b) :
    Calls Try.prog 18 #[v, .agg (ofK .u8 a).toArray, .agg (ofK .u8 b).toArray] w (TrueP w) := by
  obtain ⟨ao, cp, rfl, hcp, hcp2, hcell⟩ := hv
  have HV := Lib.hid (And.intro hcell hr.2)
  obtain ⟨n, hnl⟩ : ∃ n, r.length = n := ⟨_, rfl⟩
  rw [hnl] at hcp ⊢
  have HN := Lib.hid hnl
  have hn63 : n ≤ 9223372036854775807 := by omega
  clear hr hcell hnl
  have HAAD := Lib.hid (show IsD a from ⟨la, ba⟩)
  have HAAI := Lib.hid (infoD HAAD.out)
  have HAAL := Lib.hid (lenD HAAD.out isD_zer)
  have HBBD := Lib.hid (show IsD b from ⟨lb, bb⟩)
  have HBBI := Lib.hid (infoD HBBD.out)
  have HBBL := Lib.hid (lenD HBBD.out isD_zer)
  have HZI := Lib.hid (infoD isD_zer)
  obtain ⟨j, hj⟩ : ∃ j, joinB a b = j := ⟨_, rfl⟩
  have hjD : IsD j := by rw [← hj]; exact isD_join HAAD.out HBBD.out
  have HJE := Lib.hid hj
  have hej := fun w => eq_ids w j j true hjD hjD (decide_eq_true rfl)
  clear la ba lb bb hj hjD
  go_enter Try.func18, Try.ntmps18
  go_wp2_with (first
    | (with_reducible refine wpList_box_blk w rfl 23 (.tmp 1) rfl (ofK .u8 a) rfl ?_; intro w1 hb hbel hsz; have HB1 := Lib.hid (And.intro hb hbel); clear hb hbel hsz)
    | (with_reducible refine wpList_box_blk w1 rfl 23 (.tmp 2) rfl (ofK .u8 b) rfl ?_; intro w2 hb hbel hsz; have HB2 := Lib.hid (show Blk w2 w.heap.size 23 (ofK .u8 a) ∧ Blk w2 w1.heap.size 23 (ofK .u8 b) ∧ Below w.heap.size w w2 from ⟨HB1.out.1.below hbel HB1.out.1.lt, hb, below_thn HB1.out.2 hbel (Nat.le_refl _)⟩); clear hb hbel hsz))
  refine (wakes8_any w2).mono ?_
  rintro e w3 ⟨rfl, hb3⟩
  have H3 := Lib.hid (show w3.rangeAt w.heap.size 0 (ofK .u8 a) ∧ w3.rangeAt w1.heap.size 0 (ofK .u8 b) ∧ Below w.heap.size w w3 from ⟨rangeW_below (rangeW_blk HB2.out.1) hb3, rangeW_below (rangeW_blk HB2.out.2.1) hb3, below_thn HB2.out.2.2 hb3 (Nat.le_refl _)⟩)
  clear hb3 HB1 HB2
  go_wp2_with fail
  have C1 := Lib.hid (fun q => join_any a b (grew w3 q) HAAD.out HBBD.out)
  have C2 := Lib.hid (fun q => ljoin_any a b (grew w3 q) HAAD.out HBBD.out)
  rw [HJE.out] at C1 C2
  refine wp_region_grew (by kernel_rfl) (by kernel_rfl) ?_
  repeat (first | go_big_quiet_skip | (go_big_quiet_want; (first | (refine quiet_load_mid 23 (.tmp 4) rfl w.heap.size 0 rfl (ofK .u8 a) _ (fun w' hw' => rangeAt_grew H3.out.1 w' hw') Try.underlying23 rfl HAAI.out ?_; go_simp; go_big_quiet_on) | (refine quiet_load_mid 23 (.tmp 5) rfl w1.heap.size 0 rfl (ofK .u8 b) _ (fun w' hw' => rangeAt_grew H3.out.2.1 w' hw') Try.underlying23 rfl HBBI.out ?_; go_simp; go_big_quiet_on) | (go_big_quiet_op; (first | go_big_quiet_on | (apply Exists.intro; refine ⟨fun _ => ?_, ?_⟩; (focus (first | (go_at_call 66; with_reducible exact calls_grew (C1.out _)) | (go_at_call 67; with_reducible exact calls_grew (C2.out _)))); go_big_quiet_on))))))
  refine wpQuiet_nil ?_
  intro w4 hw4
  obtain ⟨q, rfl⟩ := hw4
  have H4 := Lib.hid (below_thn H3.out.2.2 (below_grew w3 q) (Nat.le_refl _))
  generalize grew w3 q = w4 at H4 ⊢
  clear C1 C2 H3 hej
  go_wp2_with fail
  go_loopw [26] (fun c wr => ∃ k : Nat, k ≤ 16 ∧ k ≤ n ∧ c = .int .i64 k ∧ Hid (Below w.heap.size w wr)) (fun c _ => 16 - (intOf c).toNat)
  case atStart => exact ⟨0, by omega, by omega, rfl, H4⟩
  case round =>
    obtain ⟨k, hk, hkn, rfl, HR⟩ := hrel
    clear H4
    by_cases hlt : k < n
    · have hk32 : (k : Int) < n := by omega
      have hk0 : (0 : Int) ≤ (k : Int) := by omega
      have hka : k < r.length := by rw [HN.out]; exact hlt
      obtain ⟨ag, ago, rfl, hca⟩ := HV.out.1 (by omega)
      have HC := Lib.hid (rangeW_below (hca k hka) HR.out)
      have hq := HV.out.2 _ (List.getElem_mem hka)
      generalize r[k] = q at HC hq
      obtain ⟨x, lf, vp, p⟩ := q
      obtain ⟨hxD, -, hsl, hnil, hpD⟩ := hq
      simp only at hxD hsl hnil hpD
      obtain ⟨po, pc, rfl, hpc, hpc2, hpcell⟩ := id hsl
      obtain ⟨pn, hpn⟩ : ∃ m, p.length = m := ⟨_, rfl⟩
      rw [hpn] at hsl hnil HC hpc
      have hnone : po = none → pc = 0 := fun e => by
        subst e
        by_cases h0 : pn = 0
        · subst h0; exact hnil pc rfl
        · obtain ⟨_, _, h, _⟩ := hpcell (by omega)
          cases h
      have HNO := Lib.hid hnone
      have HSL := Lib.hid hsl
      have HPD := Lib.hid (And.intro hpD hpn)
      have HXD := Lib.hid hxD
      have HXI := Lib.hid (infoD HXD.out)
      have HXL := Lib.hid (lenD HXD.out isD_zer)
      have HQI := Lib.hid (show (Try.prog.info? 83).map (·.size) = some (climbC ⟨x, lf, .slice po pn pc, p⟩).length by rw [climbC_len hxD]; exact Try.infoC8)
      have HQL := Lib.hid (show (climbC ⟨x, lf, .slice po pn pc, p⟩).length = zerC8.length by rw [climbC_len hxD]; exact (climbC_len isD_zer).symm)
      have HQ1 := Lib.hid (climbC_one x lf po pn pc p)
      have HQP := Lib.hid (fun (w' : World) (g : Nat) (h : w'.rangeAt g 0 (climbC ⟨x, lf, .slice po pn pc, p⟩)) => climb_parts h hxD)
      clear hca hka hxD hsl hnil hpD hpcell hnone hpn
      have hpn63 : pn ≤ 9223372036854775807 := by omega
      by_cases h16 : k = 16
      · subst h16
        go_wp2_with (first
    | (with_reducible refine wpList_load_any rfl 83 (.tmp 29) rfl ag (ago + 16 * 34) rfl (climbC ⟨x, lf, .slice po pn pc, p⟩) _ HC.out Try.underlying83 rfl HQI.out ?_)
    | ((with_reducible refine wpList_alloc_blk wr rfl 83 rfl zerC8 Try.zeroC8 ?_); intro w4 hb hbel hsz; have HA := Lib.hid (And.intro hb hbel); clear hb hbel hsz)
    | ((with_reducible refine wpList_store_blk w4 rfl 83 (.tmp 8) (.tmp 30) rfl wr.heap.size 83 zerC8 (climbC ⟨x, lf, .slice po pn pc, p⟩) HA.out.1 rfl rfl HQL.out HQI.out HQ1.out ?_); intro w5 hb hc hs; have hbw : Below wr.heap.size wr w5 := below_ch HA.out.2 hc (Nat.le_refl _) (fun j hj => by have : j = wr.heap.size := hj; omega); have H5 := Lib.hid (below_thn HR.out hbw (Nat.le_refl _)); clear hb hc hs hbw))
        go_ret
        exact ⟨rfl, H5.out⟩
      · have hk16 : ((k : Int) == 16) = false := by simp; omega
        have hk15 : k < 16 := by omega
        clear h16
        by_cases h6 : (6 : Int) < (pn : Int)
        · obtain ⟨P, hP⟩ : ∃ P, p.take 6 = P := ⟨_, rfl⟩
          have hjn : 6 ≤ pn := by omega
          have HPL := Lib.hid (show p.take 6 = P ∧ P.length = 6 ∧ ∀ y ∈ P, IsD y from ⟨hP, by rw [← hP, List.length_take, HPD.out.2]; omega, fun y hy => HPD.out.1 y (List.mem_of_mem_take (by rw [hP]; exact hy))⟩)
          have HNIL := Lib.hid (show NilC (.slice po 6 pc) from fun c h => by simp only [Value.slice.injEq] at h; omega)
          have hjc : 6 ≤ pc := by omega
          clear hP
          go_wp2_with (first
    | (with_reducible refine wpList_load_any rfl 83 (.tmp 29) rfl ag (ago + k * 34) rfl (climbC ⟨x, lf, .slice po pn pc, p⟩) _ HC.out Try.underlying83 rfl HQI.out ?_)
    | ((with_reducible refine wpList_alloc_blk wr rfl 83 rfl zerC8 Try.zeroC8 ?_); intro w4 hb hbel hsz; have HA := Lib.hid (And.intro hb hbel); clear hb hbel hsz)
    | ((with_reducible refine wpList_store_blk w4 rfl 83 (.tmp 8) (.tmp 30) rfl wr.heap.size 83 zerC8 (climbC ⟨x, lf, .slice po pn pc, p⟩) HA.out.1 rfl rfl HQL.out HQI.out HQ1.out ?_); intro w5 hb hc hs; have hbw : Below wr.heap.size wr w5 := below_ch HA.out.2 hc (Nat.le_refl _) (fun j hj => by have : j = wr.heap.size := hj; omega); have hp5 := HQP.out w5 wr.heap.size (rangeW_blk hb); have H5 := Lib.hid (show w5.rangeAt wr.heap.size 0 (ofK .u8 x) ∧ w5.cell? ⟨wr.heap.size, 32, none⟩ = some (.int .i64 lf) ∧ w5.cell? ⟨wr.heap.size, 33, none⟩ = some (.slice po pn pc) ∧ SlD w5 (.slice po 6 pc) P ∧ Below w.heap.size w w5 from ⟨hp5.1, hp5.2.1, hp5.2.2, by rw [← HPL.out.1]; exact (HSL.out.below (below_thn HR.out hbw (Nat.le_refl _))).take 6 hjn, below_thn HR.out hbw (Nat.le_refl _)⟩); clear hp5; clear hb hc hs hbw)
    | ((with_reducible refine wpList_slice_ids0 w5 rfl rfl ?_); intro w6 hown hbel hsz; have HE6 := Lib.hid (And.intro hown hbel); have H6 := Lib.hid (show w6.rangeAt wr.heap.size 0 (ofK .u8 x) ∧ w6.cell? ⟨wr.heap.size, 32, none⟩ = some (.int .i64 lf) ∧ w6.cell? ⟨wr.heap.size, 33, none⟩ = some (.slice po pn pc) ∧ SlD w6 (.slice po 6 pc) P ∧ Below w.heap.size w w6 from ⟨rangeW_below H5.out.1 HE6.out.2, (HE6.out.2.cell (p := ⟨wr.heap.size, 32, none⟩) (block_of_cell H5.out.2.1)).trans H5.out.2.1, (HE6.out.2.cell (p := ⟨wr.heap.size, 33, none⟩) (block_of_cell H5.out.2.2.1)).trans H5.out.2.2.1, H5.out.2.2.2.1.below HE6.out.2, below_thn H5.out.2.2.2.2 HE6.out.2 (Nat.le_refl _)⟩); have cb32 := H6.out.2.1; have cb33 := H6.out.2.2.1; clear hown hbel hsz)
    | (at_builtin; refine wpList_append_ids w6 rfl (.tmp 33) (.tmp 40) rfl w5.heap.size (.slice (some ⟨w5.heap.size, 0, none⟩) 0 0) 0 [] rfl HE6.out.1 (.slice po 6 pc) P rfl H6.out.2.2.2.1 HNIL.out HPL.out.2.2 (by rw [HPL.out.2.1]; omega) HE6.out.2.size ?_))
          intro ao9 c9 w7 hown hgr
          rw [HPL.out.2.1] at hown ⊢
          have hb7 : Below w5.heap.size w5 w7 := HE6.out.2.grown hgr HE6.out.2.size (fun j e => by cases e; exact Nat.le_refl _)
          have hn9 := nil_own hown
          have H7 := Lib.hid (show w7.rangeAt wr.heap.size 0 (ofK .u8 x) ∧ w7.cell? ⟨wr.heap.size, 32, none⟩ = some (.int .i64 lf) ∧ w7.cell? ⟨wr.heap.size, 33, none⟩ = some (.slice po pn pc) ∧ SlD w7 (.slice ao9 6 c9) P ∧ Below w.heap.size w w7 from ⟨rangeW_below H5.out.1 hb7, (hb7.cell (p := ⟨wr.heap.size, 32, none⟩) (block_of_cell H5.out.2.1)).trans H5.out.2.1, (hb7.cell (p := ⟨wr.heap.size, 33, none⟩) (block_of_cell H5.out.2.2.1)).trans H5.out.2.2.1, SlD.of_owns hown HPL.out.2.1.symm HPL.out.2.2, below_thn H5.out.2.2.2.2 hb7 (Nat.le_refl _)⟩)
          have HN9 := Lib.hid hn9
          clear hown hgr hb7 hn9 HE6 H6 H5 cb32 cb33 HA HC
          go_wp2_with (first
    | ((with_reducible refine wpList_slice_ids0 w7 rfl rfl ?_); intro w8 hown hbel hsz; have HE8 := Lib.hid (And.intro hown hbel); have H8 := Lib.hid (show w8.rangeAt wr.heap.size 0 (ofK .u8 x) ∧ w8.cell? ⟨wr.heap.size, 32, none⟩ = some (.int .i64 lf) ∧ w8.cell? ⟨wr.heap.size, 33, none⟩ = some (.slice po pn pc) ∧ SlD w8 (.slice ao9 6 c9) P ∧ Below w.heap.size w w8 from ⟨rangeW_below H7.out.1 HE8.out.2, (HE8.out.2.cell (p := ⟨wr.heap.size, 32, none⟩) (block_of_cell H7.out.2.1)).trans H7.out.2.1, (HE8.out.2.cell (p := ⟨wr.heap.size, 33, none⟩) (block_of_cell H7.out.2.2.1)).trans H7.out.2.2.1, H7.out.2.2.2.1.below HE8.out.2, below_thn H7.out.2.2.2.2 HE8.out.2 (Nat.le_refl _)⟩); clear hown hbel hsz)
    | (at_builtin; refine wpList_append_ids w8 rfl (.tmp 42) (.tmp 43) rfl w7.heap.size (.slice (some ⟨w7.heap.size, 0, none⟩) 0 0) 0 [] rfl HE8.out.1 (.slice ao9 6 c9) P rfl H8.out.2.2.2.1 HN9.out HPL.out.2.2 (by rw [HPL.out.2.1]; omega) HE8.out.2.size ?_))
          intro ao10 c10 w9 hown hgr
          rw [HPL.out.2.1] at hown ⊢
          have hb9 : Below w7.heap.size w7 w9 := HE8.out.2.grown hgr HE8.out.2.size (fun j e => by cases e; exact Nat.le_refl _)
          have H9 := Lib.hid (show w9.rangeAt wr.heap.size 0 (ofK .u8 x) ∧ w9.cell? ⟨wr.heap.size, 32, none⟩ = some (.int .i64 lf) ∧ w9.cell? ⟨wr.heap.size, 33, none⟩ = some (.slice po pn pc) ∧ SlD w9 (.slice ao9 6 c9) P ∧ SlD w9 (.slice ao10 6 c10) P ∧ Below w.heap.size w w9 from ⟨rangeW_below H7.out.1 hb9, (hb9.cell (p := ⟨wr.heap.size, 32, none⟩) (block_of_cell H7.out.2.1)).trans H7.out.2.1, (hb9.cell (p := ⟨wr.heap.size, 33, none⟩) (block_of_cell H7.out.2.2.1)).trans H7.out.2.2.1, H7.out.2.2.2.1.below hb9, SlD.of_owns hown HPL.out.2.1.symm HPL.out.2.2, below_thn H7.out.2.2.2.2 hb9 (Nat.le_refl _)⟩)
          have cc32 := H9.out.2.1; have cc33 := H9.out.2.2.1
          clear hown hgr hb9 HE8 H8 H7
          go_wp2_with (with_reducible refine wpList_load_any rfl 23 (.tmp 46) rfl wr.heap.size 0 rfl (ofK .u8 x) _ H9.out.1 Try.underlying23 rfl HXI.out ?_)
          have he := fun w => eq_ids w zer32 zer32 true isD_zer isD_zer (decide_eq_true rfl)
          by_cases l0 : lf < 0
          · skip
            refine (climb_leaf x lf ao9 6 c9 w9 (by omega)).mono ?_
            rintro e w10 ⟨rfl, hb10⟩
            have H10 := Lib.hid (show w10.rangeAt wr.heap.size 0 (ofK .u8 x) ∧ w10.cell? ⟨wr.heap.size, 32, none⟩ = some (.int .i64 lf) ∧ w10.cell? ⟨wr.heap.size, 33, none⟩ = some (.slice po pn pc) ∧ SlD w10 (.slice ao9 6 c9) P ∧ SlD w10 (.slice ao10 6 c10) P ∧ Below w.heap.size w w10 from ⟨rangeW_below H9.out.1 hb10, (hb10.cell (p := ⟨wr.heap.size, 32, none⟩) (block_of_cell H9.out.2.1)).trans H9.out.2.1, (hb10.cell (p := ⟨wr.heap.size, 33, none⟩) (block_of_cell H9.out.2.2.1)).trans H9.out.2.2.1, H9.out.2.2.2.1.below hb10, H9.out.2.2.2.2.1.below hb10, below_thn H9.out.2.2.2.2.2 hb10 (Nat.le_refl _)⟩)
            clear hb10 cc32 cc33
            go_wp2_with (first
    | ((with_reducible refine wpList_alloc_blk w10 rfl 23 rfl (ofK .u8 zer32) Try.zeroId ?_); intro w11 hb hbel hsz; have HAH12 := Lib.hid (And.intro hb hbel); clear hb hbel hsz)
    | ((with_reducible refine wpList_store_blk w11 rfl 23 (.tmp 11) (.tmp 52) rfl w10.heap.size 23 (ofK .u8 zer32) (ofK .u8 zer32) HAH12.out.1 rfl rfl rfl HZI.out (one_ofK _ _) ?_); intro w12 hb hc hs; have HBH12 := Lib.hid (show w12.rangeAt w10.heap.size 0 (ofK .u8 zer32) ∧ Below w10.heap.size w10 w12 from ⟨rangeW_blk hb, below_ch HAH12.out.2 hc (Nat.le_refl _) (fun j hj => by have : j = w10.heap.size := hj; omega)⟩); have H12 := Lib.hid (show w12.rangeAt wr.heap.size 0 (ofK .u8 x) ∧ w12.cell? ⟨wr.heap.size, 32, none⟩ = some (.int .i64 lf) ∧ w12.cell? ⟨wr.heap.size, 33, none⟩ = some (.slice po pn pc) ∧ SlD w12 (.slice ao9 6 c9) P ∧ SlD w12 (.slice ao10 6 c10) P ∧ w12.rangeAt w10.heap.size 0 (ofK .u8 zer32) ∧ Below w.heap.size w w12 from ⟨rangeW_below H10.out.1 HBH12.out.2, (HBH12.out.2.cell (p := ⟨wr.heap.size, 32, none⟩) (block_of_cell H10.out.2.1)).trans H10.out.2.1, (HBH12.out.2.cell (p := ⟨wr.heap.size, 33, none⟩) (block_of_cell H10.out.2.2.1)).trans H10.out.2.2.1, H10.out.2.2.2.1.below HBH12.out.2, H10.out.2.2.2.2.1.below HBH12.out.2, HBH12.out.1, below_thn H10.out.2.2.2.2.2 HBH12.out.2 (Nat.le_refl _)⟩); clear hb hc hs)
    | (with_reducible refine wpList_build_zer rfl rfl ?_)
    | ((with_reducible refine wpList_alloc_blk w12 rfl 23 rfl (ofK .u8 zer32) Try.zeroId ?_); intro w13 hb hbel hsz; have HAq := Lib.hid (And.intro hb hbel); clear hb hbel hsz)
    | ((with_reducible refine wpList_store_blk w13 rfl 23 (.tmp 14) (.tmp 54) rfl w12.heap.size 23 (ofK .u8 zer32) (ofK .u8 zer32) HAq.out.1 rfl rfl rfl HZI.out (one_ofK _ _) ?_); intro w14 hb hc hs; have HBq := Lib.hid (show Blk w14 w12.heap.size 23 (ofK .u8 zer32) ∧ Below w12.heap.size w12 w14 from ⟨hb, below_ch HAq.out.2 hc (Nat.le_refl _) (fun j hj => by have : j = w12.heap.size := hj; omega)⟩); have H14 := Lib.hid (show w14.rangeAt wr.heap.size 0 (ofK .u8 x) ∧ w14.cell? ⟨wr.heap.size, 32, none⟩ = some (.int .i64 lf) ∧ w14.cell? ⟨wr.heap.size, 33, none⟩ = some (.slice po pn pc) ∧ SlD w14 (.slice ao9 6 c9) P ∧ SlD w14 (.slice ao10 6 c10) P ∧ w14.rangeAt w10.heap.size 0 (ofK .u8 zer32) ∧ Blk w14 w12.heap.size 23 (ofK .u8 zer32) ∧ Below w.heap.size w w14 from ⟨rangeW_below H12.out.1 HBq.out.2, (HBq.out.2.cell (p := ⟨wr.heap.size, 32, none⟩) (block_of_cell H12.out.2.1)).trans H12.out.2.1, (HBq.out.2.cell (p := ⟨wr.heap.size, 33, none⟩) (block_of_cell H12.out.2.2.1)).trans H12.out.2.2.1, H12.out.2.2.2.1.below HBq.out.2, H12.out.2.2.2.2.1.below HBq.out.2, rangeW_below H12.out.2.2.2.2.2.1 HBq.out.2, HBq.out.1, below_thn H12.out.2.2.2.2.2.2 HBq.out.2 (Nat.le_refl _)⟩); have cd32 := H14.out.2.1; have cd33 := H14.out.2.2.1; clear hb hc hs)
    | ((with_reducible refine wpList_load_want ?_ 23 (.tmp 11) rfl w10.heap.size 0 rfl (ofK .u8 zer32) _ H14.out.2.2.2.2.2.1 Try.underlying23 rfl HZI.out ?_); focus rfl)
    | ((with_reducible refine wpList_load_want ?_ 23 (.tmp 14) rfl w12.heap.size 0 rfl (ofK .u8 zer32) _ (rangeW_blk H14.out.2.2.2.2.2.2.1) Try.underlying23 rfl HZI.out ?_); focus rfl))
            refine (same_any (.slice ao9 6 c9) (.slice ao10 6 c10) P P w14 H14.out.2.2.2.1 H14.out.2.2.2.2.1 HPL.out.2.2 HPL.out.2.2).mono ?_
            rw [decide_eq_true rfl]
            rintro e w15 ⟨rfl, hb15⟩
            have H15 := Lib.hid (below_thn H14.out.2.2.2.2.2.2.2 hb15 (Nat.le_refl _))
            clear hb15
            go_wp2_with fail
            go_roundw
            case rel => exact ⟨k + 1, by omega, by omega, by go_num, H15⟩
            case measure => simp [intOf]; omega
          · by_cases l8 : 8 ≤ lf
            · skip
              refine (climb_leaf x lf ao9 6 c9 w9 (by omega)).mono ?_
              rintro e w10 ⟨rfl, hb10⟩
              have H10 := Lib.hid (show w10.rangeAt wr.heap.size 0 (ofK .u8 x) ∧ w10.cell? ⟨wr.heap.size, 32, none⟩ = some (.int .i64 lf) ∧ w10.cell? ⟨wr.heap.size, 33, none⟩ = some (.slice po pn pc) ∧ SlD w10 (.slice ao9 6 c9) P ∧ SlD w10 (.slice ao10 6 c10) P ∧ Below w.heap.size w w10 from ⟨rangeW_below H9.out.1 hb10, (hb10.cell (p := ⟨wr.heap.size, 32, none⟩) (block_of_cell H9.out.2.1)).trans H9.out.2.1, (hb10.cell (p := ⟨wr.heap.size, 33, none⟩) (block_of_cell H9.out.2.2.1)).trans H9.out.2.2.1, H9.out.2.2.2.1.below hb10, H9.out.2.2.2.2.1.below hb10, below_thn H9.out.2.2.2.2.2 hb10 (Nat.le_refl _)⟩)
              clear hb10 cc32 cc33
              go_wp2_with (first
    | ((with_reducible refine wpList_alloc_blk w10 rfl 23 rfl (ofK .u8 zer32) Try.zeroId ?_); intro w11 hb hbel hsz; have HAH12 := Lib.hid (And.intro hb hbel); clear hb hbel hsz)
    | ((with_reducible refine wpList_store_blk w11 rfl 23 (.tmp 11) (.tmp 52) rfl w10.heap.size 23 (ofK .u8 zer32) (ofK .u8 zer32) HAH12.out.1 rfl rfl rfl HZI.out (one_ofK _ _) ?_); intro w12 hb hc hs; have HBH12 := Lib.hid (show w12.rangeAt w10.heap.size 0 (ofK .u8 zer32) ∧ Below w10.heap.size w10 w12 from ⟨rangeW_blk hb, below_ch HAH12.out.2 hc (Nat.le_refl _) (fun j hj => by have : j = w10.heap.size := hj; omega)⟩); have H12 := Lib.hid (show w12.rangeAt wr.heap.size 0 (ofK .u8 x) ∧ w12.cell? ⟨wr.heap.size, 32, none⟩ = some (.int .i64 lf) ∧ w12.cell? ⟨wr.heap.size, 33, none⟩ = some (.slice po pn pc) ∧ SlD w12 (.slice ao9 6 c9) P ∧ SlD w12 (.slice ao10 6 c10) P ∧ w12.rangeAt w10.heap.size 0 (ofK .u8 zer32) ∧ Below w.heap.size w w12 from ⟨rangeW_below H10.out.1 HBH12.out.2, (HBH12.out.2.cell (p := ⟨wr.heap.size, 32, none⟩) (block_of_cell H10.out.2.1)).trans H10.out.2.1, (HBH12.out.2.cell (p := ⟨wr.heap.size, 33, none⟩) (block_of_cell H10.out.2.2.1)).trans H10.out.2.2.1, H10.out.2.2.2.1.below HBH12.out.2, H10.out.2.2.2.2.1.below HBH12.out.2, HBH12.out.1, below_thn H10.out.2.2.2.2.2 HBH12.out.2 (Nat.le_refl _)⟩); clear hb hc hs)
    | (with_reducible refine wpList_build_zer rfl rfl ?_)
    | ((with_reducible refine wpList_alloc_blk w12 rfl 23 rfl (ofK .u8 zer32) Try.zeroId ?_); intro w13 hb hbel hsz; have HAq := Lib.hid (And.intro hb hbel); clear hb hbel hsz)
    | ((with_reducible refine wpList_store_blk w13 rfl 23 (.tmp 14) (.tmp 54) rfl w12.heap.size 23 (ofK .u8 zer32) (ofK .u8 zer32) HAq.out.1 rfl rfl rfl HZI.out (one_ofK _ _) ?_); intro w14 hb hc hs; have HBq := Lib.hid (show Blk w14 w12.heap.size 23 (ofK .u8 zer32) ∧ Below w12.heap.size w12 w14 from ⟨hb, below_ch HAq.out.2 hc (Nat.le_refl _) (fun j hj => by have : j = w12.heap.size := hj; omega)⟩); have H14 := Lib.hid (show w14.rangeAt wr.heap.size 0 (ofK .u8 x) ∧ w14.cell? ⟨wr.heap.size, 32, none⟩ = some (.int .i64 lf) ∧ w14.cell? ⟨wr.heap.size, 33, none⟩ = some (.slice po pn pc) ∧ SlD w14 (.slice ao9 6 c9) P ∧ SlD w14 (.slice ao10 6 c10) P ∧ w14.rangeAt w10.heap.size 0 (ofK .u8 zer32) ∧ Blk w14 w12.heap.size 23 (ofK .u8 zer32) ∧ Below w.heap.size w w14 from ⟨rangeW_below H12.out.1 HBq.out.2, (HBq.out.2.cell (p := ⟨wr.heap.size, 32, none⟩) (block_of_cell H12.out.2.1)).trans H12.out.2.1, (HBq.out.2.cell (p := ⟨wr.heap.size, 33, none⟩) (block_of_cell H12.out.2.2.1)).trans H12.out.2.2.1, H12.out.2.2.2.1.below HBq.out.2, H12.out.2.2.2.2.1.below HBq.out.2, rangeW_below H12.out.2.2.2.2.2.1 HBq.out.2, HBq.out.1, below_thn H12.out.2.2.2.2.2.2 HBq.out.2 (Nat.le_refl _)⟩); have cd32 := H14.out.2.1; have cd33 := H14.out.2.2.1; clear hb hc hs)
    | ((with_reducible refine wpList_load_want ?_ 23 (.tmp 11) rfl w10.heap.size 0 rfl (ofK .u8 zer32) _ H14.out.2.2.2.2.2.1 Try.underlying23 rfl HZI.out ?_); focus rfl)
    | ((with_reducible refine wpList_load_want ?_ 23 (.tmp 14) rfl w12.heap.size 0 rfl (ofK .u8 zer32) _ (rangeW_blk H14.out.2.2.2.2.2.2.1) Try.underlying23 rfl HZI.out ?_); focus rfl))
              refine (same_any (.slice ao9 6 c9) (.slice ao10 6 c10) P P w14 H14.out.2.2.2.1 H14.out.2.2.2.2.1 HPL.out.2.2 HPL.out.2.2).mono ?_
              rw [decide_eq_true rfl]
              rintro e w15 ⟨rfl, hb15⟩
              have H15 := Lib.hid (below_thn H14.out.2.2.2.2.2.2.2 hb15 (Nat.le_refl _))
              clear hb15
              go_wp2_with fail
              go_roundw
              case rel => exact ⟨k + 1, by omega, by omega, by go_num, H15⟩
              case measure => simp [intOf]; omega
            · skip
              have l8' : lf < 8 := by omega
              refine (climb_len x lf ao9 6 c9 w9 (by omega) (by omega) (by omega)).mono ?_
              rintro e w10 ⟨rfl, hb10⟩
              have H10 := Lib.hid (show w10.rangeAt wr.heap.size 0 (ofK .u8 x) ∧ w10.cell? ⟨wr.heap.size, 32, none⟩ = some (.int .i64 lf) ∧ w10.cell? ⟨wr.heap.size, 33, none⟩ = some (.slice po pn pc) ∧ SlD w10 (.slice ao9 6 c9) P ∧ SlD w10 (.slice ao10 6 c10) P ∧ Below w.heap.size w w10 from ⟨rangeW_below H9.out.1 hb10, (hb10.cell (p := ⟨wr.heap.size, 32, none⟩) (block_of_cell H9.out.2.1)).trans H9.out.2.1, (hb10.cell (p := ⟨wr.heap.size, 33, none⟩) (block_of_cell H9.out.2.2.1)).trans H9.out.2.2.1, H9.out.2.2.2.1.below hb10, H9.out.2.2.2.2.1.below hb10, below_thn H9.out.2.2.2.2.2 hb10 (Nat.le_refl _)⟩)
              clear hb10 cc32 cc33
              go_wp2_with (first
    | ((with_reducible refine wpList_alloc_blk w10 rfl 23 rfl (ofK .u8 zer32) Try.zeroId ?_); intro w11 hb hbel hsz; have HAH12 := Lib.hid (And.intro hb hbel); clear hb hbel hsz)
    | ((with_reducible refine wpList_store_blk w11 rfl 23 (.tmp 11) (.tmp 52) rfl w10.heap.size 23 (ofK .u8 zer32) (ofK .u8 zer32) HAH12.out.1 rfl rfl rfl HZI.out (one_ofK _ _) ?_); intro w12 hb hc hs; have HBH12 := Lib.hid (show w12.rangeAt w10.heap.size 0 (ofK .u8 zer32) ∧ Below w10.heap.size w10 w12 from ⟨rangeW_blk hb, below_ch HAH12.out.2 hc (Nat.le_refl _) (fun j hj => by have : j = w10.heap.size := hj; omega)⟩); have H12 := Lib.hid (show w12.rangeAt wr.heap.size 0 (ofK .u8 x) ∧ w12.cell? ⟨wr.heap.size, 32, none⟩ = some (.int .i64 lf) ∧ w12.cell? ⟨wr.heap.size, 33, none⟩ = some (.slice po pn pc) ∧ SlD w12 (.slice ao9 6 c9) P ∧ SlD w12 (.slice ao10 6 c10) P ∧ w12.rangeAt w10.heap.size 0 (ofK .u8 zer32) ∧ Below w.heap.size w w12 from ⟨rangeW_below H10.out.1 HBH12.out.2, (HBH12.out.2.cell (p := ⟨wr.heap.size, 32, none⟩) (block_of_cell H10.out.2.1)).trans H10.out.2.1, (HBH12.out.2.cell (p := ⟨wr.heap.size, 33, none⟩) (block_of_cell H10.out.2.2.1)).trans H10.out.2.2.1, H10.out.2.2.2.1.below HBH12.out.2, H10.out.2.2.2.2.1.below HBH12.out.2, HBH12.out.1, below_thn H10.out.2.2.2.2.2 HBH12.out.2 (Nat.le_refl _)⟩); clear hb hc hs)
    | (with_reducible refine wpList_build_zer rfl rfl ?_)
    | ((with_reducible refine wpList_alloc_blk w12 rfl 23 rfl (ofK .u8 zer32) Try.zeroId ?_); intro w13 hb hbel hsz; have HAq := Lib.hid (And.intro hb hbel); clear hb hbel hsz)
    | ((with_reducible refine wpList_store_blk w13 rfl 23 (.tmp 14) (.tmp 54) rfl w12.heap.size 23 (ofK .u8 zer32) (ofK .u8 zer32) HAq.out.1 rfl rfl rfl HZI.out (one_ofK _ _) ?_); intro w14 hb hc hs; have HBq := Lib.hid (show Blk w14 w12.heap.size 23 (ofK .u8 zer32) ∧ Below w12.heap.size w12 w14 from ⟨hb, below_ch HAq.out.2 hc (Nat.le_refl _) (fun j hj => by have : j = w12.heap.size := hj; omega)⟩); have H14 := Lib.hid (show w14.rangeAt wr.heap.size 0 (ofK .u8 x) ∧ w14.cell? ⟨wr.heap.size, 32, none⟩ = some (.int .i64 lf) ∧ w14.cell? ⟨wr.heap.size, 33, none⟩ = some (.slice po pn pc) ∧ SlD w14 (.slice ao9 6 c9) P ∧ SlD w14 (.slice ao10 6 c10) P ∧ w14.rangeAt w10.heap.size 0 (ofK .u8 zer32) ∧ Blk w14 w12.heap.size 23 (ofK .u8 zer32) ∧ Below w.heap.size w w14 from ⟨rangeW_below H12.out.1 HBq.out.2, (HBq.out.2.cell (p := ⟨wr.heap.size, 32, none⟩) (block_of_cell H12.out.2.1)).trans H12.out.2.1, (HBq.out.2.cell (p := ⟨wr.heap.size, 33, none⟩) (block_of_cell H12.out.2.2.1)).trans H12.out.2.2.1, H12.out.2.2.2.1.below HBq.out.2, H12.out.2.2.2.2.1.below HBq.out.2, rangeW_below H12.out.2.2.2.2.2.1 HBq.out.2, HBq.out.1, below_thn H12.out.2.2.2.2.2.2 HBq.out.2 (Nat.le_refl _)⟩); have cd32 := H14.out.2.1; have cd33 := H14.out.2.2.1; clear hb hc hs)
    | ((with_reducible refine wpList_load_want ?_ 23 (.tmp 11) rfl w10.heap.size 0 rfl (ofK .u8 zer32) _ H14.out.2.2.2.2.2.1 Try.underlying23 rfl HZI.out ?_); focus rfl)
    | ((with_reducible refine wpList_load_want ?_ 23 (.tmp 14) rfl w12.heap.size 0 rfl (ofK .u8 zer32) _ (rangeW_blk H14.out.2.2.2.2.2.2.1) Try.underlying23 rfl HZI.out ?_); focus rfl))
              refine (same_any (.slice ao9 6 c9) (.slice ao10 6 c10) P P w14 H14.out.2.2.2.1 H14.out.2.2.2.2.1 HPL.out.2.2 HPL.out.2.2).mono ?_
              rw [decide_eq_true rfl]
              rintro e w15 ⟨rfl, hb15⟩
              have H15 := Lib.hid (below_thn H14.out.2.2.2.2.2.2.2 hb15 (Nat.le_refl _))
              clear hb15
              go_wp2_with fail
              go_roundw
              case rel => exact ⟨k + 1, by omega, by omega, by go_num, H15⟩
              case measure => simp [intOf]; omega
        · obtain ⟨P, hP⟩ : ∃ P, p.take pn = P := ⟨_, rfl⟩
          have hjn : pn ≤ pn := Nat.le_refl _
          have HPL := Lib.hid (show p.take pn = P ∧ P.length = pn ∧ ∀ y ∈ P, IsD y from ⟨hP, by rw [← hP, List.length_take, HPD.out.2]; omega, fun y hy => HPD.out.1 y (List.mem_of_mem_take (by rw [hP]; exact hy))⟩)
          have HNIL := Lib.hid (show NilC (.slice po pn pc) from fun c h => by simp only [Value.slice.injEq] at h; rw [← h.2.2]; exact HNO.out h.1)
          clear hP
          go_wp2_with (first
    | (with_reducible refine wpList_load_any rfl 83 (.tmp 29) rfl ag (ago + k * 34) rfl (climbC ⟨x, lf, .slice po pn pc, p⟩) _ HC.out Try.underlying83 rfl HQI.out ?_)
    | ((with_reducible refine wpList_alloc_blk wr rfl 83 rfl zerC8 Try.zeroC8 ?_); intro w4 hb hbel hsz; have HA := Lib.hid (And.intro hb hbel); clear hb hbel hsz)
    | ((with_reducible refine wpList_store_blk w4 rfl 83 (.tmp 8) (.tmp 30) rfl wr.heap.size 83 zerC8 (climbC ⟨x, lf, .slice po pn pc, p⟩) HA.out.1 rfl rfl HQL.out HQI.out HQ1.out ?_); intro w5 hb hc hs; have hbw : Below wr.heap.size wr w5 := below_ch HA.out.2 hc (Nat.le_refl _) (fun j hj => by have : j = wr.heap.size := hj; omega); have hp5 := HQP.out w5 wr.heap.size (rangeW_blk hb); have H5 := Lib.hid (show w5.rangeAt wr.heap.size 0 (ofK .u8 x) ∧ w5.cell? ⟨wr.heap.size, 32, none⟩ = some (.int .i64 lf) ∧ w5.cell? ⟨wr.heap.size, 33, none⟩ = some (.slice po pn pc) ∧ SlD w5 (.slice po pn pc) P ∧ Below w.heap.size w w5 from ⟨hp5.1, hp5.2.1, hp5.2.2, by rw [← HPL.out.1]; exact (HSL.out.below (below_thn HR.out hbw (Nat.le_refl _))).take pn hjn, below_thn HR.out hbw (Nat.le_refl _)⟩); clear hp5; clear hb hc hs hbw)
    | ((with_reducible refine wpList_slice_ids0 w5 rfl rfl ?_); intro w6 hown hbel hsz; have HE6 := Lib.hid (And.intro hown hbel); have H6 := Lib.hid (show w6.rangeAt wr.heap.size 0 (ofK .u8 x) ∧ w6.cell? ⟨wr.heap.size, 32, none⟩ = some (.int .i64 lf) ∧ w6.cell? ⟨wr.heap.size, 33, none⟩ = some (.slice po pn pc) ∧ SlD w6 (.slice po pn pc) P ∧ Below w.heap.size w w6 from ⟨rangeW_below H5.out.1 HE6.out.2, (HE6.out.2.cell (p := ⟨wr.heap.size, 32, none⟩) (block_of_cell H5.out.2.1)).trans H5.out.2.1, (HE6.out.2.cell (p := ⟨wr.heap.size, 33, none⟩) (block_of_cell H5.out.2.2.1)).trans H5.out.2.2.1, H5.out.2.2.2.1.below HE6.out.2, below_thn H5.out.2.2.2.2 HE6.out.2 (Nat.le_refl _)⟩); have cb32 := H6.out.2.1; have cb33 := H6.out.2.2.1; clear hown hbel hsz)
    | (at_builtin; refine wpList_append_ids w6 rfl (.tmp 33) (.tmp 40) rfl w5.heap.size (.slice (some ⟨w5.heap.size, 0, none⟩) 0 0) 0 [] rfl HE6.out.1 (.slice po pn pc) P rfl H6.out.2.2.2.1 HNIL.out HPL.out.2.2 (by rw [HPL.out.2.1]; omega) HE6.out.2.size ?_))
          intro ao9 c9 w7 hown hgr
          rw [HPL.out.2.1] at hown ⊢
          have hb7 : Below w5.heap.size w5 w7 := HE6.out.2.grown hgr HE6.out.2.size (fun j e => by cases e; exact Nat.le_refl _)
          have hn9 := nil_own hown
          have H7 := Lib.hid (show w7.rangeAt wr.heap.size 0 (ofK .u8 x) ∧ w7.cell? ⟨wr.heap.size, 32, none⟩ = some (.int .i64 lf) ∧ w7.cell? ⟨wr.heap.size, 33, none⟩ = some (.slice po pn pc) ∧ SlD w7 (.slice ao9 pn c9) P ∧ Below w.heap.size w w7 from ⟨rangeW_below H5.out.1 hb7, (hb7.cell (p := ⟨wr.heap.size, 32, none⟩) (block_of_cell H5.out.2.1)).trans H5.out.2.1, (hb7.cell (p := ⟨wr.heap.size, 33, none⟩) (block_of_cell H5.out.2.2.1)).trans H5.out.2.2.1, SlD.of_owns hown HPL.out.2.1.symm HPL.out.2.2, below_thn H5.out.2.2.2.2 hb7 (Nat.le_refl _)⟩)
          have HN9 := Lib.hid hn9
          clear hown hgr hb7 hn9 HE6 H6 H5 cb32 cb33 HA HC
          go_wp2_with (first
    | ((with_reducible refine wpList_slice_ids0 w7 rfl rfl ?_); intro w8 hown hbel hsz; have HE8 := Lib.hid (And.intro hown hbel); have H8 := Lib.hid (show w8.rangeAt wr.heap.size 0 (ofK .u8 x) ∧ w8.cell? ⟨wr.heap.size, 32, none⟩ = some (.int .i64 lf) ∧ w8.cell? ⟨wr.heap.size, 33, none⟩ = some (.slice po pn pc) ∧ SlD w8 (.slice ao9 pn c9) P ∧ Below w.heap.size w w8 from ⟨rangeW_below H7.out.1 HE8.out.2, (HE8.out.2.cell (p := ⟨wr.heap.size, 32, none⟩) (block_of_cell H7.out.2.1)).trans H7.out.2.1, (HE8.out.2.cell (p := ⟨wr.heap.size, 33, none⟩) (block_of_cell H7.out.2.2.1)).trans H7.out.2.2.1, H7.out.2.2.2.1.below HE8.out.2, below_thn H7.out.2.2.2.2 HE8.out.2 (Nat.le_refl _)⟩); clear hown hbel hsz)
    | (at_builtin; refine wpList_append_ids w8 rfl (.tmp 42) (.tmp 43) rfl w7.heap.size (.slice (some ⟨w7.heap.size, 0, none⟩) 0 0) 0 [] rfl HE8.out.1 (.slice ao9 pn c9) P rfl H8.out.2.2.2.1 HN9.out HPL.out.2.2 (by rw [HPL.out.2.1]; omega) HE8.out.2.size ?_))
          intro ao10 c10 w9 hown hgr
          rw [HPL.out.2.1] at hown ⊢
          have hb9 : Below w7.heap.size w7 w9 := HE8.out.2.grown hgr HE8.out.2.size (fun j e => by cases e; exact Nat.le_refl _)
          have H9 := Lib.hid (show w9.rangeAt wr.heap.size 0 (ofK .u8 x) ∧ w9.cell? ⟨wr.heap.size, 32, none⟩ = some (.int .i64 lf) ∧ w9.cell? ⟨wr.heap.size, 33, none⟩ = some (.slice po pn pc) ∧ SlD w9 (.slice ao9 pn c9) P ∧ SlD w9 (.slice ao10 pn c10) P ∧ Below w.heap.size w w9 from ⟨rangeW_below H7.out.1 hb9, (hb9.cell (p := ⟨wr.heap.size, 32, none⟩) (block_of_cell H7.out.2.1)).trans H7.out.2.1, (hb9.cell (p := ⟨wr.heap.size, 33, none⟩) (block_of_cell H7.out.2.2.1)).trans H7.out.2.2.1, H7.out.2.2.2.1.below hb9, SlD.of_owns hown HPL.out.2.1.symm HPL.out.2.2, below_thn H7.out.2.2.2.2 hb9 (Nat.le_refl _)⟩)
          have cc32 := H9.out.2.1; have cc33 := H9.out.2.2.1
          clear hown hgr hb9 HE8 H8 H7
          go_wp2_with (with_reducible refine wpList_load_any rfl 23 (.tmp 46) rfl wr.heap.size 0 rfl (ofK .u8 x) _ H9.out.1 Try.underlying23 rfl HXI.out ?_)
          have he := fun w => eq_ids w zer32 zer32 true isD_zer isD_zer (decide_eq_true rfl)
          by_cases l0 : lf < 0
          · skip
            refine (climb_leaf x lf ao9 pn c9 w9 (by omega)).mono ?_
            rintro e w10 ⟨rfl, hb10⟩
            have H10 := Lib.hid (show w10.rangeAt wr.heap.size 0 (ofK .u8 x) ∧ w10.cell? ⟨wr.heap.size, 32, none⟩ = some (.int .i64 lf) ∧ w10.cell? ⟨wr.heap.size, 33, none⟩ = some (.slice po pn pc) ∧ SlD w10 (.slice ao9 pn c9) P ∧ SlD w10 (.slice ao10 pn c10) P ∧ Below w.heap.size w w10 from ⟨rangeW_below H9.out.1 hb10, (hb10.cell (p := ⟨wr.heap.size, 32, none⟩) (block_of_cell H9.out.2.1)).trans H9.out.2.1, (hb10.cell (p := ⟨wr.heap.size, 33, none⟩) (block_of_cell H9.out.2.2.1)).trans H9.out.2.2.1, H9.out.2.2.2.1.below hb10, H9.out.2.2.2.2.1.below hb10, below_thn H9.out.2.2.2.2.2 hb10 (Nat.le_refl _)⟩)
            clear hb10 cc32 cc33
            go_wp2_with (first
    | ((with_reducible refine wpList_alloc_blk w10 rfl 23 rfl (ofK .u8 zer32) Try.zeroId ?_); intro w11 hb hbel hsz; have HAH12 := Lib.hid (And.intro hb hbel); clear hb hbel hsz)
    | ((with_reducible refine wpList_store_blk w11 rfl 23 (.tmp 11) (.tmp 52) rfl w10.heap.size 23 (ofK .u8 zer32) (ofK .u8 zer32) HAH12.out.1 rfl rfl rfl HZI.out (one_ofK _ _) ?_); intro w12 hb hc hs; have HBH12 := Lib.hid (show w12.rangeAt w10.heap.size 0 (ofK .u8 zer32) ∧ Below w10.heap.size w10 w12 from ⟨rangeW_blk hb, below_ch HAH12.out.2 hc (Nat.le_refl _) (fun j hj => by have : j = w10.heap.size := hj; omega)⟩); have H12 := Lib.hid (show w12.rangeAt wr.heap.size 0 (ofK .u8 x) ∧ w12.cell? ⟨wr.heap.size, 32, none⟩ = some (.int .i64 lf) ∧ w12.cell? ⟨wr.heap.size, 33, none⟩ = some (.slice po pn pc) ∧ SlD w12 (.slice ao9 pn c9) P ∧ SlD w12 (.slice ao10 pn c10) P ∧ w12.rangeAt w10.heap.size 0 (ofK .u8 zer32) ∧ Below w.heap.size w w12 from ⟨rangeW_below H10.out.1 HBH12.out.2, (HBH12.out.2.cell (p := ⟨wr.heap.size, 32, none⟩) (block_of_cell H10.out.2.1)).trans H10.out.2.1, (HBH12.out.2.cell (p := ⟨wr.heap.size, 33, none⟩) (block_of_cell H10.out.2.2.1)).trans H10.out.2.2.1, H10.out.2.2.2.1.below HBH12.out.2, H10.out.2.2.2.2.1.below HBH12.out.2, HBH12.out.1, below_thn H10.out.2.2.2.2.2 HBH12.out.2 (Nat.le_refl _)⟩); clear hb hc hs)
    | (with_reducible refine wpList_build_zer rfl rfl ?_)
    | ((with_reducible refine wpList_alloc_blk w12 rfl 23 rfl (ofK .u8 zer32) Try.zeroId ?_); intro w13 hb hbel hsz; have HAq := Lib.hid (And.intro hb hbel); clear hb hbel hsz)
    | ((with_reducible refine wpList_store_blk w13 rfl 23 (.tmp 14) (.tmp 54) rfl w12.heap.size 23 (ofK .u8 zer32) (ofK .u8 zer32) HAq.out.1 rfl rfl rfl HZI.out (one_ofK _ _) ?_); intro w14 hb hc hs; have HBq := Lib.hid (show Blk w14 w12.heap.size 23 (ofK .u8 zer32) ∧ Below w12.heap.size w12 w14 from ⟨hb, below_ch HAq.out.2 hc (Nat.le_refl _) (fun j hj => by have : j = w12.heap.size := hj; omega)⟩); have H14 := Lib.hid (show w14.rangeAt wr.heap.size 0 (ofK .u8 x) ∧ w14.cell? ⟨wr.heap.size, 32, none⟩ = some (.int .i64 lf) ∧ w14.cell? ⟨wr.heap.size, 33, none⟩ = some (.slice po pn pc) ∧ SlD w14 (.slice ao9 pn c9) P ∧ SlD w14 (.slice ao10 pn c10) P ∧ w14.rangeAt w10.heap.size 0 (ofK .u8 zer32) ∧ Blk w14 w12.heap.size 23 (ofK .u8 zer32) ∧ Below w.heap.size w w14 from ⟨rangeW_below H12.out.1 HBq.out.2, (HBq.out.2.cell (p := ⟨wr.heap.size, 32, none⟩) (block_of_cell H12.out.2.1)).trans H12.out.2.1, (HBq.out.2.cell (p := ⟨wr.heap.size, 33, none⟩) (block_of_cell H12.out.2.2.1)).trans H12.out.2.2.1, H12.out.2.2.2.1.below HBq.out.2, H12.out.2.2.2.2.1.below HBq.out.2, rangeW_below H12.out.2.2.2.2.2.1 HBq.out.2, HBq.out.1, below_thn H12.out.2.2.2.2.2.2 HBq.out.2 (Nat.le_refl _)⟩); have cd32 := H14.out.2.1; have cd33 := H14.out.2.2.1; clear hb hc hs)
    | ((with_reducible refine wpList_load_want ?_ 23 (.tmp 11) rfl w10.heap.size 0 rfl (ofK .u8 zer32) _ H14.out.2.2.2.2.2.1 Try.underlying23 rfl HZI.out ?_); focus rfl)
    | ((with_reducible refine wpList_load_want ?_ 23 (.tmp 14) rfl w12.heap.size 0 rfl (ofK .u8 zer32) _ (rangeW_blk H14.out.2.2.2.2.2.2.1) Try.underlying23 rfl HZI.out ?_); focus rfl))
            refine (same_any (.slice ao9 pn c9) (.slice ao10 pn c10) P P w14 H14.out.2.2.2.1 H14.out.2.2.2.2.1 HPL.out.2.2 HPL.out.2.2).mono ?_
            rw [decide_eq_true rfl]
            rintro e w15 ⟨rfl, hb15⟩
            have H15 := Lib.hid (below_thn H14.out.2.2.2.2.2.2.2 hb15 (Nat.le_refl _))
            clear hb15
            go_wp2_with fail
            go_roundw
            case rel => exact ⟨k + 1, by omega, by omega, by go_num, H15⟩
            case measure => simp [intOf]; omega
          · by_cases l8 : 8 ≤ lf
            · skip
              refine (climb_leaf x lf ao9 pn c9 w9 (by omega)).mono ?_
              rintro e w10 ⟨rfl, hb10⟩
              have H10 := Lib.hid (show w10.rangeAt wr.heap.size 0 (ofK .u8 x) ∧ w10.cell? ⟨wr.heap.size, 32, none⟩ = some (.int .i64 lf) ∧ w10.cell? ⟨wr.heap.size, 33, none⟩ = some (.slice po pn pc) ∧ SlD w10 (.slice ao9 pn c9) P ∧ SlD w10 (.slice ao10 pn c10) P ∧ Below w.heap.size w w10 from ⟨rangeW_below H9.out.1 hb10, (hb10.cell (p := ⟨wr.heap.size, 32, none⟩) (block_of_cell H9.out.2.1)).trans H9.out.2.1, (hb10.cell (p := ⟨wr.heap.size, 33, none⟩) (block_of_cell H9.out.2.2.1)).trans H9.out.2.2.1, H9.out.2.2.2.1.below hb10, H9.out.2.2.2.2.1.below hb10, below_thn H9.out.2.2.2.2.2 hb10 (Nat.le_refl _)⟩)
              clear hb10 cc32 cc33
              go_wp2_with (first
    | ((with_reducible refine wpList_alloc_blk w10 rfl 23 rfl (ofK .u8 zer32) Try.zeroId ?_); intro w11 hb hbel hsz; have HAH12 := Lib.hid (And.intro hb hbel); clear hb hbel hsz)
    | ((with_reducible refine wpList_store_blk w11 rfl 23 (.tmp 11) (.tmp 52) rfl w10.heap.size 23 (ofK .u8 zer32) (ofK .u8 zer32) HAH12.out.1 rfl rfl rfl HZI.out (one_ofK _ _) ?_); intro w12 hb hc hs; have HBH12 := Lib.hid (show w12.rangeAt w10.heap.size 0 (ofK .u8 zer32) ∧ Below w10.heap.size w10 w12 from ⟨rangeW_blk hb, below_ch HAH12.out.2 hc (Nat.le_refl _) (fun j hj => by have : j = w10.heap.size := hj; omega)⟩); have H12 := Lib.hid (show w12.rangeAt wr.heap.size 0 (ofK .u8 x) ∧ w12.cell? ⟨wr.heap.size, 32, none⟩ = some (.int .i64 lf) ∧ w12.cell? ⟨wr.heap.size, 33, none⟩ = some (.slice po pn pc) ∧ SlD w12 (.slice ao9 pn c9) P ∧ SlD w12 (.slice ao10 pn c10) P ∧ w12.rangeAt w10.heap.size 0 (ofK .u8 zer32) ∧ Below w.heap.size w w12 from ⟨rangeW_below H10.out.1 HBH12.out.2, (HBH12.out.2.cell (p := ⟨wr.heap.size, 32, none⟩) (block_of_cell H10.out.2.1)).trans H10.out.2.1, (HBH12.out.2.cell (p := ⟨wr.heap.size, 33, none⟩) (block_of_cell H10.out.2.2.1)).trans H10.out.2.2.1, H10.out.2.2.2.1.below HBH12.out.2, H10.out.2.2.2.2.1.below HBH12.out.2, HBH12.out.1, below_thn H10.out.2.2.2.2.2 HBH12.out.2 (Nat.le_refl _)⟩); clear hb hc hs)
    | (with_reducible refine wpList_build_zer rfl rfl ?_)
    | ((with_reducible refine wpList_alloc_blk w12 rfl 23 rfl (ofK .u8 zer32) Try.zeroId ?_); intro w13 hb hbel hsz; have HAq := Lib.hid (And.intro hb hbel); clear hb hbel hsz)
    | ((with_reducible refine wpList_store_blk w13 rfl 23 (.tmp 14) (.tmp 54) rfl w12.heap.size 23 (ofK .u8 zer32) (ofK .u8 zer32) HAq.out.1 rfl rfl rfl HZI.out (one_ofK _ _) ?_); intro w14 hb hc hs; have HBq := Lib.hid (show Blk w14 w12.heap.size 23 (ofK .u8 zer32) ∧ Below w12.heap.size w12 w14 from ⟨hb, below_ch HAq.out.2 hc (Nat.le_refl _) (fun j hj => by have : j = w12.heap.size := hj; omega)⟩); have H14 := Lib.hid (show w14.rangeAt wr.heap.size 0 (ofK .u8 x) ∧ w14.cell? ⟨wr.heap.size, 32, none⟩ = some (.int .i64 lf) ∧ w14.cell? ⟨wr.heap.size, 33, none⟩ = some (.slice po pn pc) ∧ SlD w14 (.slice ao9 pn c9) P ∧ SlD w14 (.slice ao10 pn c10) P ∧ w14.rangeAt w10.heap.size 0 (ofK .u8 zer32) ∧ Blk w14 w12.heap.size 23 (ofK .u8 zer32) ∧ Below w.heap.size w w14 from ⟨rangeW_below H12.out.1 HBq.out.2, (HBq.out.2.cell (p := ⟨wr.heap.size, 32, none⟩) (block_of_cell H12.out.2.1)).trans H12.out.2.1, (HBq.out.2.cell (p := ⟨wr.heap.size, 33, none⟩) (block_of_cell H12.out.2.2.1)).trans H12.out.2.2.1, H12.out.2.2.2.1.below HBq.out.2, H12.out.2.2.2.2.1.below HBq.out.2, rangeW_below H12.out.2.2.2.2.2.1 HBq.out.2, HBq.out.1, below_thn H12.out.2.2.2.2.2.2 HBq.out.2 (Nat.le_refl _)⟩); have cd32 := H14.out.2.1; have cd33 := H14.out.2.2.1; clear hb hc hs)
    | ((with_reducible refine wpList_load_want ?_ 23 (.tmp 11) rfl w10.heap.size 0 rfl (ofK .u8 zer32) _ H14.out.2.2.2.2.2.1 Try.underlying23 rfl HZI.out ?_); focus rfl)
    | ((with_reducible refine wpList_load_want ?_ 23 (.tmp 14) rfl w12.heap.size 0 rfl (ofK .u8 zer32) _ (rangeW_blk H14.out.2.2.2.2.2.2.1) Try.underlying23 rfl HZI.out ?_); focus rfl))
              refine (same_any (.slice ao9 pn c9) (.slice ao10 pn c10) P P w14 H14.out.2.2.2.1 H14.out.2.2.2.2.1 HPL.out.2.2 HPL.out.2.2).mono ?_
              rw [decide_eq_true rfl]
              rintro e w15 ⟨rfl, hb15⟩
              have H15 := Lib.hid (below_thn H14.out.2.2.2.2.2.2.2 hb15 (Nat.le_refl _))
              clear hb15
              go_wp2_with fail
              go_roundw
              case rel => exact ⟨k + 1, by omega, by omega, by go_num, H15⟩
              case measure => simp [intOf]; omega
            · skip
              have l8' : lf < 8 := by omega
              by_cases h3 : pn = 3
              · subst h3
                obtain ⟨m, rfl⟩ : ∃ m : Nat, lf = m := ⟨lf.toNat, by omega⟩
                have HM8 := Lib.hid (show m < 8 by omega)
                obtain ⟨z, hz⟩ : ∃ z, climbM x m P = z := ⟨_, rfl⟩
                have hzD : IsD z := by rw [← hz]; exact isD_climb HXD.out HPL.out.2.2
                have HQZD := Lib.hid hzD
                have HQZI := Lib.hid (infoD HQZD.out)
                have HQZL := Lib.hid (lenD HQZD.out isD_zer)
                have HZE := Lib.hid hz
                have hez := fun w => eq_ids w z z true hzD hzD (decide_eq_true rfl)
                have H9k := Lib.hid (show w9.rangeAt wr.heap.size 0 (ofK .u8 x) ∧ w9.cell? ⟨wr.heap.size, 32, none⟩ = some (.int .i64 m) ∧ w9.cell? ⟨wr.heap.size, 33, none⟩ = some (.slice po 3 pc) ∧ SlD w9 (.slice ao9 3 c9) P ∧ SlD w9 (.slice ao10 3 c10) P ∧ Below w9.heap.size w9 w9 from ⟨H9.out.1, H9.out.2.1, H9.out.2.2.1, H9.out.2.2.2.1, H9.out.2.2.2.2.1, Below.refl _ _⟩)
                clear hz hzD he
                refine (climb_ok x m (.slice ao9 3 c9) P w9 HXD.out HM8.out H9.out.2.2.2.1 HPL.out.2.1 HPL.out.2.2).mono ?_
                rw [HZE.out]
                rintro e w10 ⟨rfl, hb10⟩
                have H10 := Lib.hid (show w10.rangeAt wr.heap.size 0 (ofK .u8 x) ∧ w10.cell? ⟨wr.heap.size, 32, none⟩ = some (.int .i64 m) ∧ w10.cell? ⟨wr.heap.size, 33, none⟩ = some (.slice po 3 pc) ∧ SlD w10 (.slice ao9 3 c9) P ∧ SlD w10 (.slice ao10 3 c10) P ∧ Below w9.heap.size w9 w10 from ⟨rangeW_below H9k.out.1 hb10, (hb10.cell (p := ⟨wr.heap.size, 32, none⟩) (block_of_cell H9k.out.2.1)).trans H9k.out.2.1, (hb10.cell (p := ⟨wr.heap.size, 33, none⟩) (block_of_cell H9k.out.2.2.1)).trans H9k.out.2.2.1, H9k.out.2.2.2.1.below hb10, H9k.out.2.2.2.2.1.below hb10, below_thn H9k.out.2.2.2.2.2 hb10 (Nat.le_refl _)⟩)
                clear hb10 cc32 cc33
                go_wp2_with (first
    | ((with_reducible refine wpList_alloc_blk w10 rfl 23 rfl (ofK .u8 zer32) Try.zeroId ?_); intro w11 hb hbel hsz; have HAH12 := Lib.hid (And.intro hb hbel); clear hb hbel hsz)
    | ((with_reducible refine wpList_store_blk w11 rfl 23 (.tmp 11) (.tmp 52) rfl w10.heap.size 23 (ofK .u8 zer32) (ofK .u8 z) HAH12.out.1 rfl rfl HQZL.out HQZI.out (one_ofK _ _) ?_); intro w12 hb hc hs; have HBH12 := Lib.hid (show w12.rangeAt w10.heap.size 0 (ofK .u8 z) ∧ Below w10.heap.size w10 w12 from ⟨rangeW_blk hb, below_ch HAH12.out.2 hc (Nat.le_refl _) (fun j hj => by have : j = w10.heap.size := hj; omega)⟩); have H12 := Lib.hid (show w12.rangeAt wr.heap.size 0 (ofK .u8 x) ∧ w12.cell? ⟨wr.heap.size, 32, none⟩ = some (.int .i64 m) ∧ w12.cell? ⟨wr.heap.size, 33, none⟩ = some (.slice po 3 pc) ∧ SlD w12 (.slice ao9 3 c9) P ∧ SlD w12 (.slice ao10 3 c10) P ∧ w12.rangeAt w10.heap.size 0 (ofK .u8 z) ∧ Below w9.heap.size w9 w12 from ⟨rangeW_below H10.out.1 HBH12.out.2, (HBH12.out.2.cell (p := ⟨wr.heap.size, 32, none⟩) (block_of_cell H10.out.2.1)).trans H10.out.2.1, (HBH12.out.2.cell (p := ⟨wr.heap.size, 33, none⟩) (block_of_cell H10.out.2.2.1)).trans H10.out.2.2.1, H10.out.2.2.2.1.below HBH12.out.2, H10.out.2.2.2.2.1.below HBH12.out.2, HBH12.out.1, below_thn H10.out.2.2.2.2.2 HBH12.out.2 (Nat.le_refl _)⟩); clear hb hc hs)
    | (with_reducible refine wpList_build_zer rfl rfl ?_)
    | ((with_reducible refine wpList_alloc_blk w12 rfl 23 rfl (ofK .u8 zer32) Try.zeroId ?_); intro w13 hb hbel hsz; have HAq := Lib.hid (And.intro hb hbel); clear hb hbel hsz)
    | ((with_reducible refine wpList_store_blk w13 rfl 23 (.tmp 14) (.tmp 54) rfl w12.heap.size 23 (ofK .u8 zer32) (ofK .u8 zer32) HAq.out.1 rfl rfl rfl HZI.out (one_ofK _ _) ?_); intro w14 hb hc hs; have HBq := Lib.hid (show Blk w14 w12.heap.size 23 (ofK .u8 zer32) ∧ Below w12.heap.size w12 w14 from ⟨hb, below_ch HAq.out.2 hc (Nat.le_refl _) (fun j hj => by have : j = w12.heap.size := hj; omega)⟩); have H14 := Lib.hid (show w14.rangeAt wr.heap.size 0 (ofK .u8 x) ∧ w14.cell? ⟨wr.heap.size, 32, none⟩ = some (.int .i64 m) ∧ w14.cell? ⟨wr.heap.size, 33, none⟩ = some (.slice po 3 pc) ∧ SlD w14 (.slice ao9 3 c9) P ∧ SlD w14 (.slice ao10 3 c10) P ∧ w14.rangeAt w10.heap.size 0 (ofK .u8 z) ∧ Blk w14 w12.heap.size 23 (ofK .u8 zer32) ∧ Below w9.heap.size w9 w14 from ⟨rangeW_below H12.out.1 HBq.out.2, (HBq.out.2.cell (p := ⟨wr.heap.size, 32, none⟩) (block_of_cell H12.out.2.1)).trans H12.out.2.1, (HBq.out.2.cell (p := ⟨wr.heap.size, 33, none⟩) (block_of_cell H12.out.2.2.1)).trans H12.out.2.2.1, H12.out.2.2.2.1.below HBq.out.2, H12.out.2.2.2.2.1.below HBq.out.2, rangeW_below H12.out.2.2.2.2.2.1 HBq.out.2, HBq.out.1, below_thn H12.out.2.2.2.2.2.2 HBq.out.2 (Nat.le_refl _)⟩); have cd32 := H14.out.2.1; have cd33 := H14.out.2.2.1; clear hb hc hs)
    | (with_reducible refine wpList_load_any rfl 23 (.tmp 55) rfl wr.heap.size 0 rfl (ofK .u8 x) _ H14.out.1 Try.underlying23 rfl HXI.out ?_))
                refine (climbed_any x m (.slice ao10 3 c10) P w14 HXD.out HM8.out H14.out.2.2.2.2.1 HPL.out.2.1 HPL.out.2.2).mono ?_
                rw [HZE.out]
                rintro e w15 ⟨rfl, hb15⟩
                have H15 := Lib.hid (show w15.rangeAt wr.heap.size 0 (ofK .u8 x) ∧ w15.cell? ⟨wr.heap.size, 32, none⟩ = some (.int .i64 m) ∧ w15.cell? ⟨wr.heap.size, 33, none⟩ = some (.slice po 3 pc) ∧ SlD w15 (.slice ao9 3 c9) P ∧ SlD w15 (.slice ao10 3 c10) P ∧ w15.rangeAt w10.heap.size 0 (ofK .u8 z) ∧ Blk w15 w12.heap.size 23 (ofK .u8 zer32) ∧ Below w9.heap.size w9 w15 from ⟨rangeW_below H14.out.1 hb15, (hb15.cell (p := ⟨wr.heap.size, 32, none⟩) (block_of_cell H14.out.2.1)).trans H14.out.2.1, (hb15.cell (p := ⟨wr.heap.size, 33, none⟩) (block_of_cell H14.out.2.2.1)).trans H14.out.2.2.1, H14.out.2.2.2.1.below hb15, H14.out.2.2.2.2.1.below hb15, rangeW_below H14.out.2.2.2.2.2.1 hb15, H14.out.2.2.2.2.2.2.1.below hb15 H14.out.2.2.2.2.2.2.1.lt, below_thn H14.out.2.2.2.2.2.2.2 hb15 (Nat.le_refl _)⟩)
                clear hb15 cd32 cd33
                go_wp2_with (first
                  | ((with_reducible refine wpList_store_blk w15 rfl 23 (.tmp 14) (.tmp 60) rfl w12.heap.size 23 (ofK .u8 zer32) (ofK .u8 z) H15.out.2.2.2.2.2.2.1 rfl rfl HQZL.out HQZI.out (one_ofK _ _) ?_); intro w16 hb hc hs; have H16 := Lib.hid (show w16.rangeAt w12.heap.size 0 (ofK .u8 z) ∧ w16.rangeAt w10.heap.size 0 (ofK .u8 z) ∧ Ch (· = w12.heap.size) w15 w16 from ⟨rangeW_blk hb, rangeW_ch H15.out.2.2.2.2.2.1 hc (fun e => by have e : w10.heap.size = w12.heap.size := e; have h2 : w10.heap.size < w12.heap.size := block_of_cell (HBH12.out.1 0 _ (get_ofK _ _ _ (by rw [HQZD.out.1]; omega))); omega), hc⟩); clear hb hc hs)
                  | ((with_reducible refine wpList_load_want ?_ 23 (.tmp 11) rfl w10.heap.size 0 rfl (ofK .u8 z) _ H16.out.2.1 Try.underlying23 rfl HQZI.out ?_); focus rfl)
                  | ((with_reducible refine wpList_load_want ?_ 23 (.tmp 14) rfl w12.heap.size 0 rfl (ofK .u8 z) _ H16.out.1 Try.underlying23 rfl HQZI.out ?_); focus rfl))
                have h912 := H12.out.2.2.2.2.2.2.size
                refine (same_any (.slice ao9 3 c9) (.slice ao10 3 c10) P P w16 (H9.out.2.2.2.1.stay HPL.out.2.2 H15.out.2.2.2.2.2.2.2 H16.out.2.2 h912) (H9.out.2.2.2.2.1.stay HPL.out.2.2 H15.out.2.2.2.2.2.2.2 H16.out.2.2 h912) HPL.out.2.2 HPL.out.2.2).mono ?_
                rw [decide_eq_true rfl]
                rintro e w17 ⟨rfl, hb17⟩
                have H17 := Lib.hid (below_thn (below_ch (below_thn H9.out.2.2.2.2.2 H15.out.2.2.2.2.2.2.2 (Nat.le_refl _)) H16.out.2.2 (Nat.le_refl _) (fun i hi => by have e : i = w12.heap.size := hi; have := H9.out.2.2.2.2.2.size; omega)) hb17 (Nat.le_refl _))
                clear hb17 h912
                go_wp2_with fail
                go_roundw
                case rel => exact ⟨k + 1, by omega, by omega, by go_num, H17⟩
                case measure => simp [intOf]; omega
              · have hp3 : ((pn : Int) == 3) = false := by simp; omega
                refine (climb_len x lf ao9 pn c9 w9 (by omega) (by omega) h3).mono ?_
                rintro e w10 ⟨rfl, hb10⟩
                have H10 := Lib.hid (show w10.rangeAt wr.heap.size 0 (ofK .u8 x) ∧ w10.cell? ⟨wr.heap.size, 32, none⟩ = some (.int .i64 lf) ∧ w10.cell? ⟨wr.heap.size, 33, none⟩ = some (.slice po pn pc) ∧ SlD w10 (.slice ao9 pn c9) P ∧ SlD w10 (.slice ao10 pn c10) P ∧ Below w.heap.size w w10 from ⟨rangeW_below H9.out.1 hb10, (hb10.cell (p := ⟨wr.heap.size, 32, none⟩) (block_of_cell H9.out.2.1)).trans H9.out.2.1, (hb10.cell (p := ⟨wr.heap.size, 33, none⟩) (block_of_cell H9.out.2.2.1)).trans H9.out.2.2.1, H9.out.2.2.2.1.below hb10, H9.out.2.2.2.2.1.below hb10, below_thn H9.out.2.2.2.2.2 hb10 (Nat.le_refl _)⟩)
                clear hb10 cc32 cc33
                go_wp2_with (first
    | ((with_reducible refine wpList_alloc_blk w10 rfl 23 rfl (ofK .u8 zer32) Try.zeroId ?_); intro w11 hb hbel hsz; have HAH12 := Lib.hid (And.intro hb hbel); clear hb hbel hsz)
    | ((with_reducible refine wpList_store_blk w11 rfl 23 (.tmp 11) (.tmp 52) rfl w10.heap.size 23 (ofK .u8 zer32) (ofK .u8 zer32) HAH12.out.1 rfl rfl rfl HZI.out (one_ofK _ _) ?_); intro w12 hb hc hs; have HBH12 := Lib.hid (show w12.rangeAt w10.heap.size 0 (ofK .u8 zer32) ∧ Below w10.heap.size w10 w12 from ⟨rangeW_blk hb, below_ch HAH12.out.2 hc (Nat.le_refl _) (fun j hj => by have : j = w10.heap.size := hj; omega)⟩); have H12 := Lib.hid (show w12.rangeAt wr.heap.size 0 (ofK .u8 x) ∧ w12.cell? ⟨wr.heap.size, 32, none⟩ = some (.int .i64 lf) ∧ w12.cell? ⟨wr.heap.size, 33, none⟩ = some (.slice po pn pc) ∧ SlD w12 (.slice ao9 pn c9) P ∧ SlD w12 (.slice ao10 pn c10) P ∧ w12.rangeAt w10.heap.size 0 (ofK .u8 zer32) ∧ Below w.heap.size w w12 from ⟨rangeW_below H10.out.1 HBH12.out.2, (HBH12.out.2.cell (p := ⟨wr.heap.size, 32, none⟩) (block_of_cell H10.out.2.1)).trans H10.out.2.1, (HBH12.out.2.cell (p := ⟨wr.heap.size, 33, none⟩) (block_of_cell H10.out.2.2.1)).trans H10.out.2.2.1, H10.out.2.2.2.1.below HBH12.out.2, H10.out.2.2.2.2.1.below HBH12.out.2, HBH12.out.1, below_thn H10.out.2.2.2.2.2 HBH12.out.2 (Nat.le_refl _)⟩); clear hb hc hs)
    | (with_reducible refine wpList_build_zer rfl rfl ?_)
    | ((with_reducible refine wpList_alloc_blk w12 rfl 23 rfl (ofK .u8 zer32) Try.zeroId ?_); intro w13 hb hbel hsz; have HAq := Lib.hid (And.intro hb hbel); clear hb hbel hsz)
    | ((with_reducible refine wpList_store_blk w13 rfl 23 (.tmp 14) (.tmp 54) rfl w12.heap.size 23 (ofK .u8 zer32) (ofK .u8 zer32) HAq.out.1 rfl rfl rfl HZI.out (one_ofK _ _) ?_); intro w14 hb hc hs; have HBq := Lib.hid (show Blk w14 w12.heap.size 23 (ofK .u8 zer32) ∧ Below w12.heap.size w12 w14 from ⟨hb, below_ch HAq.out.2 hc (Nat.le_refl _) (fun j hj => by have : j = w12.heap.size := hj; omega)⟩); have H14 := Lib.hid (show w14.rangeAt wr.heap.size 0 (ofK .u8 x) ∧ w14.cell? ⟨wr.heap.size, 32, none⟩ = some (.int .i64 lf) ∧ w14.cell? ⟨wr.heap.size, 33, none⟩ = some (.slice po pn pc) ∧ SlD w14 (.slice ao9 pn c9) P ∧ SlD w14 (.slice ao10 pn c10) P ∧ w14.rangeAt w10.heap.size 0 (ofK .u8 zer32) ∧ Blk w14 w12.heap.size 23 (ofK .u8 zer32) ∧ Below w.heap.size w w14 from ⟨rangeW_below H12.out.1 HBq.out.2, (HBq.out.2.cell (p := ⟨wr.heap.size, 32, none⟩) (block_of_cell H12.out.2.1)).trans H12.out.2.1, (HBq.out.2.cell (p := ⟨wr.heap.size, 33, none⟩) (block_of_cell H12.out.2.2.1)).trans H12.out.2.2.1, H12.out.2.2.2.1.below HBq.out.2, H12.out.2.2.2.2.1.below HBq.out.2, rangeW_below H12.out.2.2.2.2.2.1 HBq.out.2, HBq.out.1, below_thn H12.out.2.2.2.2.2.2 HBq.out.2 (Nat.le_refl _)⟩); have cd32 := H14.out.2.1; have cd33 := H14.out.2.2.1; clear hb hc hs)
    | ((with_reducible refine wpList_load_want ?_ 23 (.tmp 11) rfl w10.heap.size 0 rfl (ofK .u8 zer32) _ H14.out.2.2.2.2.2.1 Try.underlying23 rfl HZI.out ?_); focus rfl)
    | ((with_reducible refine wpList_load_want ?_ 23 (.tmp 14) rfl w12.heap.size 0 rfl (ofK .u8 zer32) _ (rangeW_blk H14.out.2.2.2.2.2.2.1) Try.underlying23 rfl HZI.out ?_); focus rfl))
                refine (same_any (.slice ao9 pn c9) (.slice ao10 pn c10) P P w14 H14.out.2.2.2.1 H14.out.2.2.2.2.1 HPL.out.2.2 HPL.out.2.2).mono ?_
                rw [decide_eq_true rfl]
                rintro e w15 ⟨rfl, hb15⟩
                have H15 := Lib.hid (below_thn H14.out.2.2.2.2.2.2.2 hb15 (Nat.le_refl _))
                clear hb15
                go_wp2_with fail
                go_roundw
                case rel => exact ⟨k + 1, by omega, by omega, by go_num, H15⟩
                case measure => simp [intOf]; omega
    · obtain rfl : k = n := by omega
      go_wp2_with fail
      go_ret
      exact ⟨rfl, HR.out⟩

end Go.Proofs.Ytkbhehnpgnilmaa
