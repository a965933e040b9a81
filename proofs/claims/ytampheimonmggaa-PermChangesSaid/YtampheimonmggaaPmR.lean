/-
  perm.groups: the iterator over a user's groups, walked. Conditions: lengths within the form's reach.
-/
import Derived.Test.YtampheimonmggaaPmO
import Derived.Test.YtampheimonmggaaMkC
import Derived.Test.YtampheimonmggaaFrameP
namespace Go.Proofs.Ytampheimonmggaa
open Go Go.RowKit Go.Shelf
set_option linter.unusedSimpArgs false
set_option linter.unusedVariables false
attribute [local go_sem] Oper.semAt_some

/-- a user's groups -/
def grpL (ls : List (Int × Int)) (who : Int) : List Int := (ls.filter (fun m => m.2 == who)).map (·.1)
theorem grpL_succ (ls : List (Int × Int)) (who : Int) (k : Nat) (h : k < ls.length) : grpL (ls.take (k + 1)) who = grpL (ls.take k) who ++ if (ls[k].2 == who) = true then [ls[k].1] else [] := by
  unfold grpL
  rw [List.take_succ_eq_append_getElem h, List.filter_append, List.map_append]
  by_cases e : (ls[k].2 == who) = true <;> simp [e]
theorem grpL_take (ls : List (Int × Int)) (who : Int) (k : Nat) : grpL (ls.take k) who <+: grpL ls who := by
  unfold grpL
  conv => rhs; rw [← List.take_append_drop k ls, List.filter_append, List.map_append]
  exact List.prefix_append _ _
def blC (m : Int × Int) : List Value := [.int .i64 m.1, .int .i64 m.2]
theorem Try.infoBl : (Try.prog.info? 65).map (·.size) = some 2 := by kernel_rfl
theorem blC_info (m : Int × Int) : (Try.prog.info? 65).map (·.size) = some (blC m).length := Try.infoBl
theorem blC_one (m : Int × Int) : ∀ v ∈ blC m, v.oneCell' = true := fun v hv => by
  simp only [blC, List.mem_cons, List.not_mem_nil, or_false] at hv
  rcases hv with rfl | rfl <;> rfl
theorem Try.zeroBl : ∀ w, (zeroValue 65).run Try.prog w = .ok (.agg (blC (0, 0)).toArray) w := fun w => by kernel_rfl

/-- what the iterator reads -/
def GrpT (bw : Nat) (v : Value) (n : Nat) (_ : Int) (k : Nat) : Prop := k = bw ∨ (0 < n ∧ v.ownBlock = some k)
structure GrpW (bw : Nat) (who : Int) (v : Value) (ls : List (Int × Int)) (W : World) : Prop where
  box : Blk W bw 3 [.int .i64 who]
  sl : SlP W v .i64 .i64 ls
theorem SlP.below {w w' : World} {v : Value} {k0 k1 : IntKind} {ls : List (Int × Int)} (h : SlP w v k0 k1 ls) (hb : Below w.heap.size w w') : SlP w' v k0 k1 ls := by
  obtain ⟨ao, c, h1, h2, h3, h4⟩ := h
  refine ⟨ao, c, h1, h2, h3, fun h0 => ?_⟩
  obtain ⟨b, o, h5, h6, h7⟩ := h4 h0
  refine ⟨b, o, h5, Nat.lt_of_lt_of_le h6 hb.size, fun j hj => ?_⟩
  exact ⟨(hb.cell (p := ⟨b, _, none⟩) h6).trans (h7 j hj).1, (hb.cell (p := ⟨b, _, none⟩) h6).trans (h7 j hj).2⟩
theorem SlP.same {w w' : World} {v : Value} {k0 k1 : IntKind} {ls : List (Int × Int)} (h : SlP w v k0 k1 ls) (hsz : w.heap.size ≤ w'.heap.size) (hk : ∀ k, 0 < ls.length → v.ownBlock = some k → w'.heap[k]? = w.heap[k]?) : SlP w' v k0 k1 ls := by
  obtain ⟨ao, c, h1, h2, h3, h4⟩ := h
  refine ⟨ao, c, h1, h2, h3, fun h0 => ?_⟩
  obtain ⟨b, o, h5, h6, h7⟩ := h4 h0
  have hb := hk b h0 (by rw [h1, h5]; rfl)
  refine ⟨b, o, h5, Nat.lt_of_lt_of_le h6 hsz, fun j hj => ?_⟩
  exact ⟨(World.cell?_of_block (w := w) (a := ⟨b, _, none⟩) hb).trans (h7 j hj).1, (World.cell?_of_block (w := w) (a := ⟨b, _, none⟩) hb).trans (h7 j hj).2⟩
theorem GrpW.below {bw : Nat} {who : Int} {v : Value} {ls : List (Int × Int)} {W W' : World} (h : GrpW bw who v ls W) (hb : Below W.heap.size W W') : GrpW bw who v ls W' := ⟨h.box.below hb h.box.lt, h.sl.below hb⟩

set_option maxRecDepth 100000 in
set_option maxHeartbeats 4000000 in
theorem groups_mem (who : Int) (bl bw : Nat) (v : Value) (ls : List (Int × Int)) (w : World) (hbl : Blk w bl 41 [v]) (hg : GrpW bw who v ls w) :
    SeqMem Fence.wide 8 Try.prog 55 #[.pointer (some ⟨bl, 0, none⟩), .pointer (some ⟨bw, 0, none⟩)] (fun g : Int => #[.int .i64 g]) (GrpT bw v ls.length) (fun _ _ _ _ => True) (fun xs => xs = grpL ls who) (fun pre => pre <+: grpL ls who) w := fun l J Jx W hW hJ hJx hY h0 => by
  obtain ⟨ao, cp, rfl, hcp, hcm, -⟩ := id hg.sl
  have HG := Lib.hid (hg.below hW)
  have HL := Lib.hid ((hbl.below hW hbl.lt).cell 0)
  have HJ := Lib.hid hJ
  have HJX := Lib.hid hJx
  have HY := Lib.hid hY
  have H0 := Lib.hid h0
  obtain ⟨n, hn⟩ : ∃ n, ls.length = n := ⟨_, rfl⟩
  have HN := Lib.hid hn
  rw [hn] at HL HG HY hcp
  have HGS := Lib.hid (grpL_succ ls who)
  have k1 := HL.out
  simp only [List.getElem?_cons_zero] at k1
  have hn63 : n ≤ 9223372036854775807 := by omega
  clear hbl hg hJ hJx hY h0 hn
  refine callsIn_of_wp Try.func55 rfl trivial ?_ rfl
  simp only [Try.ntmps55, List.size_toArray, List.length_cons, List.length_nil, Nat.reduceAdd, Nat.reduceSub, Array.replicate_succ, Array.replicate_zero, List.push_toArray, List.append_toArray, List.nil_append, List.cons_append]
  gi_wp2
  clear k1
  gi_loopw [5, 8] (fun _ i wr => ∃ k : Nat, k ≤ n ∧ i = .int .i64 k ∧ Hid (J (grpL (ls.take k) who) wr ∧ GrpW bw who (.slice ao n cp) ls wr)) (fun _ i _ => n - (intOf i).toNat)
  case atStart => exact ⟨0, Nat.zero_le _, rfl, Lib.hid ⟨H0.out, HG.out⟩⟩
  case round =>
    obtain ⟨k, hk, rfl, HR⟩ := hrel
    by_cases hlt : k < n
    · have hkz : (k : Int) < (n : Int) := by omega
      have hk0 : (0 : Int) ≤ (k : Int) := by omega
      have hkl : k < ls.length := by rw [HN.out]; exact hlt
      obtain ⟨ao', cp', he, -, -, hcell⟩ := HR.out.2.sl
      simp only [Value.slice.injEq] at he
      obtain ⟨rfl, -, rfl⟩ := he
      obtain ⟨b, o, rfl, hb, hc⟩ := hcell (by omega)
      have hgs := HGS.out k hkl
      have hc2 := hc k hkl
      generalize ls[k] = m at hgs hc2
      obtain ⟨g, u⟩ := m
      have HC := Lib.hid (show wr.rangeAt b (o + k * 2) (blC (g, u)) from fun j x hx => by
        match j, hx with
        | 0, hx => simp only [blC, List.getElem?_cons_zero, Option.some.injEq] at hx; subst hx; exact hc2.1
        | 1, hx => simp only [blC, List.getElem?_cons_zero, List.getElem?_cons_succ, Option.some.injEq] at hx; subst hx; exact hc2.2)
      simp only at hgs
      obtain ⟨z, hz⟩ : ∃ z, (u == who) = z := ⟨_, rfl⟩
      rw [hz] at hgs
      have HGE := Lib.hid hgs
      clear hcell hc hc2 hgs hb hkl
      cases z
      · have HGF := Lib.hid (show grpL (ls.take (k + 1)) who = grpL (ls.take k) who by rw [HGE.out, if_neg (by simp), List.append_nil])
        gi_wp2_with (first
          | (with_reducible refine inL_load WideF.wide _ rfl 65 (.tmp 10) rfl b (o + k * 2) rfl (blC (g, u)) _ HC.out Try.underlying65 rfl (blC_info _) ?_)
          | ((with_reducible refine inL_alloc WideF.wide _ rfl 65 rfl (blC (0, 0)) Try.zeroBl ?_); intro W1 hb hbel hsz; have H1 := Lib.hid (And.intro hb hbel); clear hb hbel hsz)
          | ((with_reducible refine inL_store WideF.wide W1 rfl 65 (.tmp 5) (.tmp 11) rfl wr.heap.size 65 (blC (0, 0)) (blC (g, u)) H1.out.1 rfl rfl rfl (blC_info _) (blC_one _) ?_); intro W2 hb hc hs; have H2 := Lib.hid (show Blk W2 wr.heap.size 65 (blC (g, u)) ∧ Below wr.heap.size wr W2 from ⟨hb, below_ch H1.out.2 hc (Nat.le_refl _) (fun j hj => by have e : j = wr.heap.size := hj; omega)⟩); have a0 := hb.cell 0; have a1 := hb.cell 1; simp only [blC, List.getElem?_cons_zero, List.getElem?_cons_succ] at a0 a1; have a2 := (HR.out.2.box.below H2.out.2 HR.out.2.box.lt).cell 0; simp only [List.getElem?_cons_zero] at a2; clear hb hc hs))
        refine ⟨fun f h => (by cases h), ?_⟩
        gi_wp2
        go_roundw
        case rel => exact ⟨k + 1, by omega, by go_num, Lib.hid ⟨by rw [HGF.out]; exact HJ.out _ _ _ HR.out.1 H2.out.2, HR.out.2.below H2.out.2⟩⟩
        case measure => simp [intOf]; omega
      · have HGF := Lib.hid (show grpL (ls.take (k + 1)) who = grpL (ls.take k) who ++ [g] by rw [HGE.out, if_pos rfl])
        have HPX := Lib.hid (grpL_take ls who (k + 1))
        gi_wp2_with (first
          | (with_reducible refine inL_load WideF.wide _ rfl 65 (.tmp 10) rfl b (o + k * 2) rfl (blC (g, u)) _ HC.out Try.underlying65 rfl (blC_info _) ?_)
          | ((with_reducible refine inL_alloc WideF.wide _ rfl 65 rfl (blC (0, 0)) Try.zeroBl ?_); intro W1 hb hbel hsz; have H1 := Lib.hid (And.intro hb hbel); clear hb hbel hsz)
          | ((with_reducible refine inL_store WideF.wide W1 rfl 65 (.tmp 5) (.tmp 11) rfl wr.heap.size 65 (blC (0, 0)) (blC (g, u)) H1.out.1 rfl rfl rfl (blC_info _) (blC_one _) ?_); intro W2 hb hc hs; have H2 := Lib.hid (show Blk W2 wr.heap.size 65 (blC (g, u)) ∧ Below wr.heap.size wr W2 from ⟨hb, below_ch H1.out.2 hc (Nat.le_refl _) (fun j hj => by have e : j = wr.heap.size := hj; omega)⟩); have a0 := hb.cell 0; have a1 := hb.cell 1; simp only [blC, List.getElem?_cons_zero, List.getElem?_cons_succ] at a0 a1; have a2 := (HR.out.2.box.below H2.out.2 HR.out.2.box.lt).cell 0; simp only [List.getElem?_cons_zero] at a2; clear hb hc hs; obtain ⟨fn, tmps, assign, body, hyl, hR⟩ := HY.out _ g wr W2 HR.out.1 H2.out.2 trivial; try simp only at hyl))

        refine hR.mono ?_
        rintro e W3 (⟨rfl, hJ3, hsz3, hk3⟩ | ⟨rfl, hJx3⟩)
        · have H3 := Lib.hid (show J (grpL (ls.take (k + 1)) who) W3 ∧ GrpW bw who (.slice (some ⟨b, o, none⟩) n cp) ls W3 from ⟨by rw [HGF.out]; exact hJ3, by
            have h1 := HR.out.2.below H2.out.2
            exact ⟨by unfold Blk; rw [hk3 bw (.inl rfl)]; exact h1.box, h1.sl.same hsz3 (fun k h0 hk => hk3 k (.inr ⟨by rw [← HN.out]; exact h0, hk⟩))⟩⟩)
          clear hJ3 hsz3 hk3 hyl hR a0 a1 a2
          gi_wp2
          go_roundw
          case rel => exact ⟨k + 1, by omega, by go_num, H3⟩
          case measure => simp [intOf]; omega
        · have H3 := Lib.hid (show Jx (grpL (ls.take (k + 1)) who) W3 by rw [HGF.out]; exact hJx3)
          clear hJx3 hyl hR a0 a1 a2
          gi_wp2
          refine bodyPost_ret (results_none rfl _ _ _) rfl ?_
          exact ⟨⟨_, rfl⟩, .inr ⟨_, HPX.out, H3.out⟩⟩
    · have hge : ¬ (k : Int) < (n : Int) := by omega
      have HF := Lib.hid (show J (grpL ls who) wr by have h := HR.out.1; rwa [List.take_of_length_le (by rw [HN.out]; omega)] at h)
      gi_wp2
      go_end0
      exact ⟨⟨_, rfl⟩, .inl HF.out⟩

end Go.Proofs.Ytampheimonmggaa
