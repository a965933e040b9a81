/-
  Package wots: the digest of a letter, numbers and digests, walked. Conditions: bytes, numbers of their kinds, at most a thousand of each.
-/
import Derived.Test.YtkbhehnpgnilmaaShaQ
import Derived.Test.YtkbhehnpgnilmaaWide
namespace Go.Proofs.Ytkbhehnpgnilmaa
open Go Go.RowKit
set_option linter.unusedSimpArgs false

/-- thirty-two bytes -/
def IsD (x : List Int) : Prop := x.length = 32 ∧ AllB x
def zer32 : List Int := List.replicate 32 0
theorem isD_zer : IsD zer32 := ⟨by simp [zer32], fun c hc => by obtain ⟨_, rfl⟩ := List.mem_replicate.1 hc; omega⟩
theorem Try.infoId : (Try.prog.info? 23).map (·.size) = some 32 := by kernel_rfl
theorem Try.zeroId : ∀ w, (zeroValue 23).run Try.prog w = .ok (.agg (ofK .u8 zer32).toArray) w := fun w => by kernel_rfl
theorem infoD {x : List Int} (h : IsD x) : (Try.prog.info? 23).map (·.size) = some (ofK .u8 x).length := by rw [length_ofK, h.1]; exact Try.infoId
theorem lenD {x y : List Int} (h : IsD x) (k : IsD y) : (ofK .u8 x).length = (ofK .u8 y).length := by rw [length_ofK, length_ofK, h.1, k.1]
theorem isD_sum {bs : List Int} (h : AllB bs) : IsD (sumL bs) := ⟨sumL_length h, sumL_allB bs⟩

/-- a row of digests -/
def SlD (w : World) (v : Value) (l : List (List Int)) : Prop :=
  ∃ ao c, v = .slice ao l.length c ∧ l.length ≤ c ∧ c ≤ 9223372036854775807 ∧ (0 < l.length → ∃ g o, ao = some ⟨g, o, none⟩ ∧ ∀ k (hk : k < l.length), w.rangeAt g (o + k * 32) (ofK .u8 l[k]))
theorem SlD.below {w w' : World} {v : Value} {l : List (List Int)} (h : SlD w v l) (hb : Below w.heap.size w w') : SlD w' v l := by
  obtain ⟨ao, c, h1, h2, h3, h4⟩ := h
  exact ⟨ao, c, h1, h2, h3, fun h0 => by
    obtain ⟨g, o, h5, h6⟩ := h4 h0
    exact ⟨g, o, h5, fun k hk => rangeW_below (h6 k hk) hb⟩⟩
theorem SlD.nil (w : World) : SlD w (.slice none 0 0) [] := ⟨none, 0, rfl, Nat.le_refl _, by omega, fun h => by simp at h⟩

/-- what is digested -/
def digB (c : Int) (nums : List Int) (l : List (List Int)) : List Int := c :: (nums.map (· % 256) ++ l.flatten)
theorem digB_allB {c : Int} {nums : List Int} {l : List (List Int)} (hc : 0 ≤ c ∧ c ≤ 255) (hl : ∀ x ∈ l, IsD x) : AllB (digB c nums l) := by
  intro y hy
  rcases List.mem_cons.1 hy with rfl | hy
  · exact hc
  rcases List.mem_append.1 hy with hy | hy
  · obtain ⟨z, _, rfl⟩ := List.mem_map.1 hy
    omega
  · obtain ⟨x, hx, hy⟩ := List.mem_flatten.1 hy
    exact (hl x hx).2 y hy
theorem flat32 : ∀ {l : List (List Int)}, (∀ x ∈ l, IsD x) → l.flatten.length = 32 * l.length
  | [], _ => rfl
  | x :: l, h => by
    rw [List.flatten_cons, List.length_append, (h x (by simp)).1, flat32 (fun y hy => h y (by simp [hy])), List.length_cons]; omega

theorem own_ch {w w' : World} {S : Nat → Prop} {base e size n : Nat} {v : Value} {xs : List Value} (h : w.ownsRow base e size v n xs) (hc : Ch S w w') (hS : ∀ k, v.ownBlock = some k → ¬ S k) : w'.ownsRow base e size v n xs := by
  obtain ⟨h1, ⟨h2, h3⟩ | ⟨g, cap, C, rfl, h4, h5, h6⟩⟩ := h
  · exact ⟨h1, .inl ⟨h2, h3⟩⟩
  · refine ⟨h1, .inr ⟨g, cap, C, rfl, h4, ?_, h6⟩⟩
    rw [hc.block g (lt_of_block h5) (hS g rfl)]
    exact h5
theorem sl_id {w : World} {g : Nat} {x : List Int} (hx : IsD x) (h : Blk w g 23 (ofK .u8 x)) : Sl w (.slice (some ⟨g, 0, none⟩) 32 32) (ofK .u8 x) := by
  have := h.sl 0 32 32 (by rw [length_ofK, hx.1]; omega) (Nat.le_refl _) (by unfold maxLen; omega)
  rwa [List.drop_zero, List.take_of_length_le (by rw [length_ofK, hx.1]; omega)] at this

set_option maxRecDepth 100000 in
set_option maxHeartbeats 4000000 in
theorem digest_any (c : Int) (vn : Value) (nums : List Int) (vd : Value) (l : List (List Int)) (w : World) (hc : 0 ≤ c ∧ c ≤ 255) (hn : Sl w vn (ofK .i64 nums)) (hnl : nums.length ≤ 1000) (hnb : ∀ x ∈ nums, 0 ≤ x ∧ x ≤ 1000) (hd : SlD w vd l) (hl : l.length ≤ 1000) (hD : ∀ x ∈ l, IsD x) :
    Calls Try.prog 105 #[.int .u8 c, vn, vd] w (fun e w' => e = .returned (.agg (ofK .u8 (sumL (digB c nums l))).toArray) ∧ Below w.heap.size w w') := by
  obtain ⟨i0, hi, hz0, hz1, hz2⟩ := info_parts Try.info5
  have hda := digB_allB (nums := nums) hc hD
  have HS := Lib.hid (isD_sum hda)
  have HDA := Lib.hid hda
  obtain ⟨no, nc, rfl, hnc, hnc6, hncell⟩ := hn.nums
  obtain ⟨vo, vc, rfl, hdc, hdc6, hdcell⟩ := hd
  have HN := Lib.hid (And.intro hncell hnb)
  have HD := Lib.hid (And.intro hdcell hD)
  obtain ⟨N, hN⟩ : ∃ N, nums.length = N := ⟨_, rfl⟩
  obtain ⟨L, hL⟩ : ∃ L, l.length = L := ⟨_, rfl⟩
  rw [hN] at hnc hnl ⊢
  rw [hL] at hdc hl ⊢
  have HNL := Lib.hid (And.intro hN hL)
  obtain ⟨ns, hns⟩ : ∃ ns, nums.map (· % 256) = ns := ⟨_, rfl⟩
  have HNS := Lib.hid hns
  clear hn hncell hdcell hD hnb hc hda hN hL hns
  go_enter Try.func105, Try.ntmps105
  go_wp2_with ((with_reducible refine wpList_alloc_blk w rfl 23 rfl (ofK .u8 zer32) Try.zeroId ?_); intro w1 hb hbel hsz; have H1 := Lib.hid (And.intro hb (And.intro hbel hsz)); clear hb hbel hsz)
  have HO0 := Lib.hid (show (w1.alloc (.cells #[.int .u8 c] 5)).ownsRow w1.heap.size 5 1 (.slice (some ⟨w1.heap.size, 0, none⟩) 1 1) 1 (ofK .u8 [c]) from Blk.owns (xs := ofK .u8 [c]) (Blk.new w1 (ofK .u8 [c]) 5) (Nat.le_refl _) (by simp [ofK, maxLen]))
  have HB0 := Lib.hid (show Below w1.heap.size w1 (w1.alloc (.cells #[.int .u8 c] 5)) from (Below.refl _ w1).alloc (Nat.le_refl _) _)
  generalize w1.alloc (.cells #[.int .u8 c] 5) = w2 at HO0 HB0 ⊢
  go_loopw [7, 16] (fun b i wr => ∃ k : Nat, k ≤ N ∧ i = .int .i64 k ∧ (∃ ao cp, b = .slice ao (1 + k) cp) ∧ Hid (wr.ownsRow w1.heap.size 5 1 b (1 + k) (ofK .u8 (c :: ns.take k)) ∧ Below w1.heap.size w1 wr)) (fun _ i _ => N - (intOf i).toNat)
  case atStart => exact ⟨0, Nat.zero_le _, rfl, ⟨_, _, rfl⟩, Lib.hid ⟨HO0.out, HB0.out⟩⟩
  case round =>
    obtain ⟨k, hk, rfl, ⟨ao, cp, rfl⟩, HR⟩ := hrel
    clear HO0 HB0
    by_cases hlt : k < N
    · have hkl : k < nums.length := by rw [HNL.out.1]; exact hlt
      obtain ⟨ng, ngo, rfl, _, hcl⟩ := HN.out.1 (by omega)
      have hb1 : Below w.heap.size w wr := below_thn H1.out.2.1 HR.out.2 (by have := H1.out.2.2; omega)
      have hcw := (hb1.cell (p := ⟨ng, ngo + k, none⟩) (block_of_cell (hcl k hkl))).trans (hcl k hkl)
      have hbd := HN.out.2 nums[k] (List.getElem_mem hkl)
      have htk : ns.take (k + 1) = ns.take k ++ [nums[k] % 256] := by rw [← HNS.out, List.take_add_one, List.getElem?_map, List.getElem?_eq_getElem hkl]; rfl
      generalize nums[k] = y at hcw hbd htk
      have hk0 : (0 : Int) ≤ (k : Int) := by omega
      have hk1 : (k : Int) < (N : Int) := by omega
      have HT := Lib.hid htk
      clear hcl hb1 htk
      have hwz : w1.heap.size ≤ wr.heap.size := HR.out.2.size
      have HA := Lib.hid (HR.out.1.alloc (.cells #[.int .u8 (y % 256)] 5))
      go_wp2_with (at_builtin; refine wpList_append_sl _ rfl (.tmp 20) (.tmp 23) 33 rfl w1.heap.size 5 i0 (.int .u8 0) 1 Try.underlying33 hi hz0 hz1 hz2 rfl _ (1 + k) _ rfl HA.out _ (ofK .u8 [y % 256]) rfl (by exact sl_new _ _ _ _ _ 1 rfl rfl (by omega)) (one_ofK _ _) (1 + (k + 1)) ?_ ?_ ?_ ?_ ?_)
      · (first | (simp [ofK]; omega) | (simp [ofK]))
      · unfold maxLen; omega
      · omega
      · (first | (simp; omega) | omega)
      · intro ao2 cp2 w3 hown3 hgr3 _
        have e2 : ofK .u8 (c :: ns.take k) ++ ofK .u8 [y % 256] = ofK .u8 (c :: ns.take (k + 1)) := by rw [HT.out]; simp [ofK]
        rw [e2] at hown3
        have HR3 := Lib.hid (And.intro hown3 (show Below w1.heap.size w1 w3 from (HR.out.2.alloc hwz _).grown hgr3 (by simp; omega) (fun i hi => (HR.out.1.lt i hi).1)))
        clear hown3 hgr3 e2 HR HA
        go_wp2_with fail
        go_roundw
        case rel => exact ⟨k + 1, by omega, by go_num, ⟨_, _, rfl⟩, HR3⟩
        case measure => simp [intOf]; omega
    · obtain rfl : k = N := by omega
      have eN : ns.take k = ns := List.take_of_length_le (by rw [← HNS.out, List.length_map, HNL.out.1]; exact Nat.le_refl _)
      rw [eN] at HR
      clear eN
      go_wp2_with fail
      go_loopw [7, 28] (fun b i wt => ∃ j : Nat, j ≤ L ∧ i = .int .i64 j ∧ (∃ n ao cp, n ≤ 40000 ∧ b = .slice ao n cp ∧ Hid (n = 1 + k + 32 * j ∧ wt.ownsRow w1.heap.size 5 1 b n (ofK .u8 (c :: (ns ++ (l.take j).flatten))) ∧ Below w1.heap.size w1 wt))) (fun _ i _ => L - (intOf i).toNat)
      case atStart => exact ⟨0, Nat.zero_le _, rfl, 1 + k, _, _, by omega, rfl, Lib.hid ⟨by omega, by simpa using HR.out.1, HR.out.2⟩⟩
      case round =>
        obtain ⟨j, hj, rfl, n, ao, cp, hn4, rfl, HT⟩ := hrel
        clear HR
        by_cases hlt : j < L
        · have hjl : j < l.length := by rw [HNL.out.2]; exact hlt
          obtain ⟨dg, dgo, rfl, hcl⟩ := HD.out.1 (by omega)
          have hb1 : Below w.heap.size w wr := below_thn H1.out.2.1 HT.out.2.2 (by have := H1.out.2.2; omega)
          have HC := Lib.hid (rangeW_below (hcl j hjl) hb1)
          have hx := HD.out.2 l[j] (List.getElem_mem hjl)
          have htk : (l.take (j + 1)).flatten = (l.take j).flatten ++ l[j] := by rw [List.take_add_one, List.getElem?_eq_getElem hjl, List.flatten_append]; simp
          generalize l[j] = x at HC hx htk
          have HX := Lib.hid (And.intro hx htk)
          have HI := Lib.hid (infoD hx)
          have HLx := Lib.hid (lenD hx isD_zer)
          clear hcl hx htk hb1
          have hj0 : (0 : Int) ≤ (j : Int) := by omega
          have hj1 : (j : Int) < (L : Int) := by omega
          have hwz : w1.heap.size ≤ wr.heap.size := HT.out.2.2.size
          go_wp2_with (first
            | (with_reducible refine wpList_load_any rfl 23 (.tmp 30) rfl dg (dgo + j * 32) rfl (ofK .u8 x) _ HC.out Try.underlying23 rfl HI.out ?_)
            | ((with_reducible refine wpList_alloc_blk wr rfl 23 rfl (ofK .u8 zer32) Try.zeroId ?_); intro w3 hb hbel hsz; have H3 := Lib.hid (And.intro hb (And.intro hbel hsz)); clear hb hbel hsz)
            | ((with_reducible refine wpList_store_blk w3 rfl 23 (.tmp 11) (.tmp 31) rfl wr.heap.size 23 (ofK .u8 zer32) (ofK .u8 x) H3.out.1 rfl rfl HLx.out HI.out (one_ofK _ _) ?_); intro w4 hb hc hs; have hw4 : Below wr.heap.size wr w4 := below_ch H3.out.2.1 hc (Nat.le_refl _) (fun k hk => by have : k = wr.heap.size := hk; omega); have H4 := Lib.hid (And.intro hb (And.intro (own_ch HT.out.2.1 (Ch.of_below (S := fun _ => False) hw4 (Nat.le_refl _)) (fun _ _ h => h)) (And.intro (below_thn HT.out.2.2 hw4 (Nat.le_refl _)) hw4.size))); clear hb hc hs hw4)
            | (at_builtin; refine wpList_append_sl w4 rfl (.tmp 32) (.tmp 33) 33 rfl w1.heap.size 5 i0 (.int .u8 0) 1 Try.underlying33 hi hz0 hz1 hz2 rfl _ n _ rfl H4.out.2.1 _ (ofK .u8 x) rfl (sl_id HX.out.1 H4.out.1) (one_ofK _ _) (n + 32) ?_ ?_ ?_ ?_ ?_))
          · rw [length_ofK, HX.out.1.1]
          · unfold maxLen; omega
          · omega
          · have := H4.out.2.2.2; omega
          · intro ao2 cp2 w5 hown5 hgr5 _
            have e2 : ofK .u8 (c :: (ns ++ (l.take j).flatten)) ++ ofK .u8 x = ofK .u8 (c :: (ns ++ (l.take (j + 1)).flatten)) := by rw [HX.out.2]; simp [ofK]
            rw [e2] at hown5
            have HR5 := Lib.hid (And.intro (show n + 32 = 1 + k + 32 * (j + 1) by have := HT.out.1; omega) (And.intro hown5 (show Below w1.heap.size w1 w5 from H4.out.2.2.1.grown hgr5 (by have := H4.out.2.2.2; omega) (fun i hi => (HT.out.2.1.lt i hi).1))))
            have hn5 : n + 32 ≤ 40000 := by have := HT.out.1; omega
            clear hown5 hgr5 e2 HT
            go_wp2_with fail
            go_roundw
            case rel => exact ⟨j + 1, by omega, by go_num, _, _, _, hn5, rfl, HR5⟩
            case measure => simp [intOf]; omega
        · obtain rfl : j = L := by omega
          have eL : (l.take j).flatten = l.flatten := by rw [List.take_of_length_le (by rw [HNL.out.2]; exact Nat.le_refl _)]
          have eD : digB c nums l = c :: (ns ++ l.flatten) := by unfold digB; rw [HNS.out]
          rw [eL, ← eD] at HT
          clear eL eD
          have hlen : (digB c nums l).length = n := by rw [HT.out.1]; unfold digB; rw [List.length_cons, List.length_append, List.length_map, flat32 HD.out.2, HNL.out.1, HNL.out.2]; omega
          have HLn := Lib.hid hlen
          clear hlen
          have HI := Lib.hid (infoD HS.out)
          have HLx := Lib.hid (lenD HS.out isD_zer)
          have HIR := Lib.hid (show (Try.prog.info? 23).map (·.size) = some (ofK .u8 (sumL (digB c nums l))).length from infoD HS.out)
          go_wp2_with fail
          refine (sum_any _ (digB c nums l) _ (Sl.of_owns HT.out.2.1) (by rw [HLn.out]; omega) HDA.out).mono ?_
          rintro e w6 ⟨rfl, hb6⟩
          have H6 := Lib.hid (And.intro ((H1.out.1.below HT.out.2.2 (by have := H1.out.2.2; omega)).below hb6 (by have := HT.out.2.2.size; have := H1.out.2.2; omega)) (below_thn (below_thn H1.out.2.1 HT.out.2.2 (by have := H1.out.2.2; omega)) hb6 (Nat.le_refl _)))
          clear hb6
          go_wp2_with ((with_reducible refine wpList_store_blk w6 rfl 23 (.tmp 6) (.tmp 37) rfl w.heap.size 23 (ofK .u8 zer32) (ofK .u8 (sumL (digB c nums l))) H6.out.1 rfl rfl HLx.out HI.out (one_ofK _ _) ?_); intro w7 hb hc hs; have H7 := Lib.hid (And.intro hb hc); clear hb hc hs)
          refine bodyPost_ret (results_blk Try.results105 _ _ w.heap.size _ _ rfl H7.out.1 _ Try.underlying23 rfl HIR.out) rfl ⟨rfl, ?_⟩
          exact below_ch H6.out.2 H7.out.2 (Nat.le_refl _) (fun k hk => by have : k = w.heap.size := hk; omega)

end Go.Proofs.Ytkbhehnpgnilmaa
