/-
  Package sha: Block, walked. Conditions: numbers of 32 bits, bytes.
-/
import Derived.Test.YtkbhehnpgnilmaaShaR
import Derived.Outline
namespace Go.Proofs.Ytkbhehnpgnilmaa
open Go Go.RowKit

set_option maxRecDepth 100000 in
set_option maxHeartbeats 4000000 in
theorem block_any (hs : List Nat) (bs : List Int) (w : World) (hh : hs.length = 8) (h32 : All32 hs) (hb : bs.length = 64) (ha : AllB bs) :
    Calls Try.prog 39 #[.agg (ofN hs).toArray, .agg (ofK .u8 bs).toArray] w (fun e w' => e = .returned (.agg (ofN (blockN hs bs)).toArray) ∧ Below w.heap.size w w') := by
  have H1 := Lib.hid (And.intro hh (And.intro h32 (And.intro hb ha)))
  clear hh h32 hb ha
  go_enter Try.func39, Try.ntmps39
  go_upto_region 4 with fail
  go_cut [10] (fun s10 wc => ∃ b r : Nat, s10 = .pointer (some ⟨b, 0, none⟩) ∧ w.heap.size + 8 ≤ b ∧ b < wc.heap.size ∧ w.heap.size + 8 ≤ r ∧ r < wc.heap.size ∧ Hid (Rd wc b r bs 0) ∧ Hid (ShaSt wc w.heap.size hs [0, 0, 0, 0, 0, 0, 0, 0] (wordsTo bs 0)) ∧ Hid (Below w.heap.size w wc))
  case first =>
    go_wp2_with fail
    obtain ⟨k1, k2, k3, k4⟩ := shaStart hs bs w H1.out.2.2.1
    refine (read_any _ bs _ (by exact k1) (by rw [H1.out.2.2.1]; omega)).mono ?_
    rintro e w1 ⟨b, r, rfl, hb1, hb2, hr1, hr2, hrd, hbel⟩
    have e1 : ((shaObjs hs bs).foldl World.alloc w).heap.size ≤ b := hb1
    have e2 : ((shaObjs hs bs).foldl World.alloc w).heap.size ≤ r := hr1
    have e3 : Below ((shaObjs hs bs).foldl World.alloc w).heap.size ((shaObjs hs bs).foldl World.alloc w) w1 := hbel
    rw [k3] at e1 e2
    have HS := Lib.hid (k2.keep (Ch.of_below (S := fun _ => False) e3 (Nat.le_refl _)) (fun _ h => h.elim))
    have HB := Lib.hid (below_thn k4 e3 (Nat.le_refl _))
    have HR := Lib.hid hrd
    clear hb1 hr1 hbel e3 k1 k2 k3 k4 hrd
    go_wp2_with fail
    go_meet
    exact ⟨b, r, rfl, e1, hb2, e2, hr2, HR, HS, HB⟩
  case rest =>
    obtain ⟨b, r, rfl, hb1, hb2, hr1, hr2, HR, HS, HB⟩ := hcut
    go_wp2_with fail
    go_loopw [29] (fun i wr => ∃ k : Nat, k ≤ 16 ∧ i = .int .i64 k ∧ r < wr.heap.size ∧ Hid (Rd wr b r (bs.drop (4 * k)) 0) ∧ Hid (ShaSt wr w.heap.size hs [0, 0, 0, 0, 0, 0, 0, 0] (wordsTo bs k)) ∧ Hid (Below w.heap.size w wr)) (fun i _ => 16 - (intOf i).toNat)
    case atStart => exact ⟨0, Nat.zero_le _, rfl, hr2, HR, HS, HB⟩
    case round =>
      clear HR HS HB hb2 hr2
      obtain ⟨k, hk, rfl, hr2, HR, HS, HB⟩ := hrel
      by_cases hlt : k < 16
      · go_wp2_with fail
        refine (u32_of b r (bs.drop (4 * k)) 0 wr (wordAt bs k : Nat) (bs.drop (4 * (k + 1))) 0 HR.out hr2 (fun c hc => H1.out.2.2.2 c (List.mem_of_mem_drop hc)) (by rw [takeF_drop bs k (by rw [H1.out.2.2.1]; omega)]; exact word_val H1.out.2.2.2 k) (by rw [takeF_drop bs k (by rw [H1.out.2.2.1]; omega)]) (by rw [takeF_drop bs k (by rw [H1.out.2.2.1]; omega)])).mono ?_
        rintro e w1 ⟨rfl, hrd, hch⟩
        have hs1 := HS.out.keep hch (fun i hi => by have hi2 : i = b := hi; omega)
        have hlw : (ofN (wordsTo bs k)).length = 16 := by simp [ofN, wordsTo]
        have hsz := hch.size
        have HS1 := Lib.hid hs1
        have HB1 := Lib.hid (below_ch HB.out hch (Nat.le_refl _) (fun i hi => by have hi2 : i = b := hi; omega))
        have HR1 := Lib.hid hrd
        have c1 : w1.cell? ⟨w.heap.size + 7, k, none⟩ = some ((ofN (wordsTo bs k))[k]'(by omega)) := by rw [hs1.ws.cell]; exact List.getElem?_eq_getElem (by omega)
        obtain ⟨vk, hvk⟩ : ∃ vk, (ofN (wordsTo bs k))[k]'(by omega) = .int .u32 vk := ⟨_, by simp [ofN]; rfl⟩
        rw [hvk] at c1
        have f1 := hs1.ws.free k
        clear hrd hch hs1 HS HB HR hvk hlw
        go_wp2_with fail
        go_roundw
        case rel =>
          have hset := Ch.set w1 ⟨w.heap.size + 7, k, none⟩ (.int .u32 (wordAt bs k : Nat))
          refine ⟨k + 1, by omega, by go_num, by simp only [World.size_setCell]; omega, Lib.hid (HR1.out.keep hset (fun h => by have h2 : b = w.heap.size + 7 := h; omega) (fun h => by have h2 : r = w.heap.size + 7 := h; omega)), Lib.hid ?_, Lib.hid (below_ch HB1.out hset (Nat.le_refl _) (fun i hi => by have hi2 : i = w.heap.size + 7 := hi; omega))⟩
          have := HS1.out.setWord k (wordAt bs k)
          rwa [wordsTo_succ] at this
        case measure => simp [intOf]; omega
      · have hk16 : k = 16 := by omega
        subst hk16
        clear hlt hk HR
        go_upto_region 10 with fail
        iterate 1 go_step
        refine wpList_load_blk _ rfl 42 (.tmp 2) rfl w.heap.size 42 (ofN hs) HS.out.h rfl _ Try.underlying42 rfl (by rw [ofN_length, H1.out.1]; kernel_rfl) ?_
        refine wpList_of_run2 _ rfl (.pointer (some ⟨wr.heap.size, 0, none⟩)) (wr.alloc (.cells (ofN [0, 0, 0, 0, 0, 0, 0, 0]).toArray 42)) (by first | rfl | (simp [go_sem]; done) | (simp [go_sem]; rfl)) ?_
        refine wpList_store_blk _ rfl 42 (.tmp 12) (.tmp 37) rfl wr.heap.size 42 (ofN [0, 0, 0, 0, 0, 0, 0, 0]) (ofN hs) (heap_alloc_new _ _) rfl rfl (by rw [ofN_length, H1.out.1]; rfl) (by rw [ofN_length, H1.out.1]; kernel_rfl) (one_ofN _) ?_
        intro w2 hb2 hch hsz
        have HS2 := Lib.hid ((HS.out.keep (Ch.alloc (Ch.refl (fun _ => False) wr) (.cells (ofN [0, 0, 0, 0, 0, 0, 0, 0]).toArray 42)) (fun _ h => h.elim)).keep hch (fun i hi => by have hi2 : i = wr.heap.size := hi; omega))
        have HB2 := Lib.hid (below_ch (HB.out.alloc HB.out.size _) hch (Nat.le_refl _) (fun i hi => by have hi2 : i = wr.heap.size := hi; omega))
        have HR2 := Lib.hid hb2
        have hRB : w.heap.size + 8 ≤ wr.heap.size := by omega
        have hRs : wr.heap.size < w2.heap.size := by rw [hsz]; simp
        clear hch hsz HS HB hb2 hr2 hb1 hr1 
        generalize wr.heap.size = R at *
        go_wp2_with fail
        refine (constants_any _).mono ?_
        rintro e w3 ⟨rfl, hbel3⟩
        have HS3 := Lib.hid (HS2.out.keep (Ch.of_below (S := fun _ => False) hbel3 (Nat.le_refl _)) (fun _ h => h.elim))
        have HB3 := Lib.hid (below_thn HB2.out hbel3 (Nat.le_refl _))
        have HR3 := Lib.hid (HR2.out.keep (Ch.of_below (S := fun _ => False) hbel3 (Nat.le_refl _)) (fun h => h.elim))
        have hRs3 : R < w3.heap.size := Nat.lt_of_lt_of_le hRs hbel3.size
        clear hbel3 HS2 HB2 HR2 hRs
        go_wp2_with fail
        go_loopw [39] (fun i wt => ∃ (t : Nat) (row ws : List Nat), t ≤ 64 ∧ i = .int .i64 t ∧ R < wt.heap.size ∧ Hid (ShaGood row ws ∧ runT (hs, wordsTo bs 16) t = (row, ws)) ∧ Hid (Blk wt R 42 (ofN row)) ∧ Hid (ShaSt wt w.heap.size hs [0, 0, 0, 0, 0, 0, 0, 0] ws) ∧ Hid (Below w.heap.size w wt)) (fun i _ => 64 - (intOf i).toNat)
        case atStart => exact ⟨0, hs, wordsTo bs 16, Nat.zero_le _, rfl, hRs3, Lib.hid ⟨⟨H1.out.1, by simp [wordsTo], H1.out.2.1, words_lt H1.out.2.2.2⟩, rfl⟩, HR3, HS3, HB3⟩
        case round =>
          clear HS3 HB3 HR3 hRs3
          obtain ⟨t, row, ws, ht, rfl, hRs, HG, HR, HS, HB⟩ := hrel
          by_cases hlt : t < 64
          · go_upto_region 13 with fail
            have hix : ∀ w : World, (Instr.index 46 (.agg (ofN K64).toArray) (.int .i64 t)).run Try.prog w = .ok (.int .u32 ((K64.getD t 0 : Nat) : Int)) w := fun w => run_index_arr Try.underlying46 (by omega) (by omega) (fun _ => by rfl) (fun _ => by rfl) _ (by
              have h64 : t < K64.length := hlt
              rw [Int.toNat_natCast, List.getElem?_toArray, ofN_get K64 t h64, List.getD_eq_getElem?_getD, List.getElem?_eq_getElem h64]; rfl)
            obtain ⟨i0, hi0⟩ : ∃ i0, i0 = t % 16 := ⟨_, rfl⟩
            have hm0 : Int.tmod (t : Int) 16 = (i0 : Int) := by rw [hi0]; exact (Int.ofNat_tmod t 16).symm
            have hl0 : i0 < 16 := by omega
            have HI0 := Lib.hid hi0
            clear hi0
            obtain ⟨kt, hkt⟩ : ∃ kt, kt = K64.getD t 0 := ⟨_, rfl⟩
            rw [← hkt] at hix
            have HK := Lib.hid hkt
            clear hkt
            go_upto_if 47 with fail
            have HIN := Lib.hid (show ShaIn w (wr.alloc (.cells #[.int .i64 t] 3)) w.heap.size R wr.heap.size t hs row ws from by
              have hc := Ch.alloc (Ch.refl (fun _ => False) wr) (.cells #[.int .i64 t] 3)
              exact ⟨HS.out.keep hc (fun _ h => h.elim), HR.out.keep hc (fun h => h.elim), Blk.new _ [.int .i64 t] _, HB.out.alloc HB.out.size _, hRB, hRs⟩)
            clear HS HR HB
            go_cut [] (fun wc => Hid (ShaIn w wc w.heap.size R wr.heap.size t hs row (stepW ws t)))
            case first =>
              by_cases h16 : t < 16
              · go_wp2_with fail
                go_meet
                rw [stepW_small h16]
                exact HIN
              · go_wp2_with fail
                refine reg16 w _ w.heap.size R wr.heap.size t i0 hs row ws h16 hlt HI0.out HG.out.1.hw HG.out.1.aw rfl HIN.out _ _ _ _ _ _ _ _ _ _ _ _ _ _ _ _ _ _ _ _ _ _ _ _ _ _ _ _ _ _ _ _ _ _ _ _ _ _ _ _ _ _ _ _ _ _ _ _ _ _ _ _ _ _ _ _ _ _ _ _ _ _ _ _ _ _ _ _ _ _ _ _ _ _ _ _ _ _ _ _ _ _ _ _ _ _ _ _ _ _ _ _ _ _ _ _ _ _ _ _ _ _ _ _ _ _ _ _ _ _ _ _ _ _ _ _ _ _ _ _ _ _ _ _ _ _ _ _ _ _ _ _ _ _ _ _ _ _ _ _ _ _ _ _ _ _ _ _ _ _ _ _ _ _ ?_
                intro _ _ _ _ _ _ _ _ _ _ _ _ _ _ _ _ _ _ _ _ _ _ _ _ _ _ w' h
                go_wp2_with fail
                go_meet
                exact Lib.hid h
            case rest =>
              clear HIN
              have hlr := HG.out.1.hr
              have ar := HG.out.1.ar
              obtain ⟨x0, h0⟩ : ∃ x, atG row 0 t = x := ⟨_, rfl⟩
              obtain ⟨x1, h1⟩ : ∃ x, atG row 1 t = x := ⟨_, rfl⟩
              obtain ⟨x2, h2⟩ : ∃ x, atG row 2 t = x := ⟨_, rfl⟩
              obtain ⟨x3, h3⟩ : ∃ x, atG row 3 t = x := ⟨_, rfl⟩
              obtain ⟨x4, h4⟩ : ∃ x, atG row 4 t = x := ⟨_, rfl⟩
              obtain ⟨x5, h5⟩ : ∃ x, atG row 5 t = x := ⟨_, rfl⟩
              obtain ⟨x6, h6⟩ : ∃ x, atG row 6 t = x := ⟨_, rfl⟩
              obtain ⟨x7, h7⟩ : ∃ x, atG row 7 t = x := ⟨_, rfl⟩
              obtain ⟨s, hsum⟩ : ∃ s, sumS row kt (newWord ws t) t = s := ⟨_, rfl⟩
              obtain ⟨r3, hr3⟩ : ∃ r, add32 x3 s = r := ⟨_, rfl⟩
              obtain ⟨top, htop⟩ : ∃ r, add32 (add32 s (mixN 2 13 22 false x0)) ((x0 &&& x2) ||| (x1 &&& (x0 ||| x2))) = r := ⟨_, rfl⟩
              have hi16 : i0 < (stepW ws t).length := by rw [show (stepW ws t).length = 16 by simp [stepW, HG.out.1.hw]]; exact hl0
              have hwd : (stepW ws t).getD i0 0 = newWord ws t := stepW_at HI0.out (by rw [HG.out.1.hw]; exact hl0)
              have hrow2 : (row.set (atN 3 t) r3).length = 8 := by simp [hlr]
              have ar2 : All32 (row.set (atN 3 t) r3) := ar.set _ _ (by rw [← hr3]; exact add32_lt _ _)
              have h1' : atG (row.set (atN 3 t) r3) 1 t = x1 := by rw [atG_set hlt (by decide) (by decide) (by decide)]; exact h1
              have b0 : x0 < 4294967296 := by rw [← h0]; exact ar.getD _
              have b2 : x2 < 4294967296 := by rw [← h2]; exact ar.getD _
              have hstep : stepT (row, ws) t = ((row.set (atN 3 t) r3).set (atN 7 t) top, stepW ws t) := by
                unfold stepT stepR newTop
                simp only
                rw [← HK.out, hsum, h3, hr3, h0, h1, h2, htop]
              have HX := Lib.hid (And.intro hlr (And.intro ar (And.intro h0 (And.intro h1 (And.intro h2 (And.intro h3 (And.intro h4 (And.intro h5 (And.intro h6 h7)))))))))
              have HY := Lib.hid (And.intro hsum (And.intro hr3 (And.intro htop (And.intro hwd (And.intro hrow2 (And.intro ar2 (And.intro h1' hstep)))))))
              clear hlr ar h0 h1 h2 h3 h4 h5 h6 h7 hsum hr3 htop hwd hrow2 ar2 h1' hstep
              go_wp2_with fail
              refine reg18 w _ w.heap.size R wr.heap.size t hs row (stepW ws t) hlt HX.out.1 HX.out.2.1 rfl hcut.out x0 x2 x4 x6 HX.out.2.2.1 HX.out.2.2.2.2.1 HX.out.2.2.2.2.2.2.1 HX.out.2.2.2.2.2.2.2.2.1 _ _ _ _ _ _ _ _ _ _ _ _ _ _ _ _ _ _ _ _ _ _ _ _ _ _ _ _ _ _ _ _ _ _ _ _ _ _ _ _ _ _ _ _ _ _ _ _ _ _ _ _ _ _ _ _ _ _ _ _ _ _ _ _ _ _ _ _ _ _ _ _ _ _ _ _ _ _ _ _ _ _ _ _ _ _ _ _ _ _ _ _ _ _ _ _ _ _ _ _ _ _ _ _ _ _ _ _ _ _ _ _ _ _ _ _ _ _ _ _ _ _ _ _ _ _ _ _ _ _ _ _ _ _ _ _ _ _ _ _ _ _ _ _ _ _ _ _ _ _ _ _ _ _ _ _ _ _ ?_
              intro _ _ _ _ _ _ _ _ _ _ _ _ _ _ _ _ w18 h
              have HI18 := Lib.hid h
              clear h hcut
              go_wp2_with fail
              refine reg19 w _ w.heap.size R wr.heap.size t hs row (stepW ws t) hlt HX.out.1 HX.out.2.1 rfl HI18.out i0 x4 x5 x6 x7 kt (newWord ws t) s hi16 HY.out.2.2.2.1 HX.out.2.2.2.2.2.2.1 HX.out.2.2.2.2.2.2.2.1 HX.out.2.2.2.2.2.2.2.2.1 HX.out.2.2.2.2.2.2.2.2.2 HY.out.1 _ _ _ _ _ _ _ _ _ _ _ _ _ _ _ _ _ _ _ _ _ _ _ _ _ _ _ _ _ _ _ _ _ _ _ _ _ _ _ _ _ _ _ _ _ _ _ _ _ _ _ _ _ _ _ _ _ _ _ _ _ _ _ _ _ _ _ _ _ _ _ _ _ _ _ _ _ _ _ _ _ _ _ _ _ _ _ _ _ _ _ _ _ _ _ _ _ _ _ _ _ _ _ _ _ _ _ _ _ _ _ _ _ _ _ _ _ _ _ _ _ _ _ _ _ _ _ _ _ _ _ _ _ _ _ _ _ _ _ _ _ _ _ _ _ _ _ _ _ _ _ _ _ ?_
              intro _ _ _ _ _ _ _ _ _ _ _ _ _ _ _ _ _ _ _ _ _ _ _ _ _ w19 h
              have HI19 := Lib.hid h
              clear h HI18
              go_upto_region 20 with fail
              refine reg20 w _ w.heap.size R wr.heap.size t hs row (stepW ws t) hlt HX.out.1 HX.out.2.1 rfl HI19.out x3 s r3 HX.out.2.2.2.2.2.1 HY.out.2.1 _ _ _ _ _ _ _ _ _ _ _ _ _ _ _ _ _ _ _ _ _ _ _ _ _ _ _ _ _ _ _ _ _ _ _ _ _ _ _ _ _ _ _ _ _ _ _ _ _ _ _ _ _ _ _ _ _ _ _ _ _ _ _ _ _ _ _ _ _ _ _ _ _ _ _ _ _ _ _ _ _ _ _ _ _ _ _ _ _ _ _ _ _ _ _ _ _ _ _ _ _ _ _ _ _ _ _ _ _ _ _ _ _ _ _ _ _ _ _ _ _ _ _ _ _ _ _ _ _ _ _ _ _ _ _ _ _ _ _ _ _ _ _ _ _ _ _ _ _ _ _ _ _ _ _ _ _ ?_
              intro _ _ _ _ _ _ _ w20 h
              have HI20 := Lib.hid h
              clear h HI19
              go_wp2_with fail
              refine reg21 w _ w.heap.size R wr.heap.size t hs (row.set (atN 3 t) r3) (stepW ws t) hlt HY.out.2.2.2.2.1 HY.out.2.2.2.2.2.1 rfl HI20.out x0 x1 x2 s top b0 b2 HY.out.2.2.2.2.2.2.1 HY.out.2.2.1 _ _ _ _ _ _ _ _ _ _ _ _ _ _ _ _ _ _ _ _ _ _ _ _ _ _ _ _ _ _ _ _ _ _ _ _ _ _ _ _ _ _ _ _ _ _ _ _ _ _ _ _ _ _ _ _ _ _ _ _ _ _ _ _ _ _ _ _ _ _ _ _ _ _ _ _ _ _ _ _ _ _ _ _ _ _ _ _ _ _ _ _ _ _ _ _ _ _ _ _ _ _ _ _ _ _ _ _ _ _ _ _ _ _ _ _ _ _ _ _ _ _ _ _ _ _ _ _ _ _ _ _ _ _ _ _ _ _ _ _ _ _ _ _ _ _ _ _ _ _ _ _ _ _ ?_
              intro _ _ _ _ _ _ _ _ _ _ _ _ _ _ _ _ _ _ _ _ _ w21 h
              have HI21 := Lib.hid h
              clear h HI20
              go_wp2_with fail
              go_roundw
              case rel =>
                have hg := HG.out.1.step t
                rw [HY.out.2.2.2.2.2.2.2] at hg
                refine ⟨t + 1, _, stepW ws t, by omega, by go_num, HI21.out.row.lt, Lib.hid ⟨hg, ?_⟩, Lib.hid HI21.out.row, Lib.hid HI21.out.st, Lib.hid HI21.out.bel⟩
                show stepT (runT (hs, wordsTo bs 16) t) t = _
                rw [HG.out.2]
                exact HY.out.2.2.2.2.2.2.2
              case measure => simp [intOf]; omega
          · have ht64 : t = 64 := by omega
            subst ht64
            have HF := Lib.hid (And.intro HS.out.h (And.intro HS.out.res (And.intro HR.out HB.out)))
            clear HR HS HB hlt ht
            go_wp2_with fail
            go_loopw [145] (fun i wt => ∃ k : Nat, k ≤ 8 ∧ i = .int .i64 k ∧ Hid (Blk wt w.heap.size 42 (ofN (addTo hs row k)) ∧ Blk wt (w.heap.size + 2) 42 (ofN [0, 0, 0, 0, 0, 0, 0, 0]) ∧ Blk wt R 42 (ofN row) ∧ Below w.heap.size w wt)) (fun i _ => 8 - (intOf i).toNat)
            case atStart => exact ⟨0, Nat.zero_le _, rfl, Lib.hid (by rw [addTo_zero H1.out.1]; exact HF.out)⟩
            case round =>
              clear HF
              obtain ⟨k, hk, rfl, HF⟩ := hrel
              by_cases hlt : k < 8
              · obtain ⟨x, hx⟩ : ∃ x, (addTo hs row k).getD k 0 = x := ⟨_, rfl⟩
                obtain ⟨y, hy⟩ : ∃ x, row.getD k 0 = x := ⟨_, rfl⟩
                have hla : (addTo hs row k).length = 8 := addTo_length _ _ _
                have hlr := HG.out.1.hr
                have c1 := cell_grew (show wr.cell? ⟨w.heap.size, k, none⟩ = some (.int .u32 x) by rw [← hx]; exact cell_ofN HF.out.1 k (by rw [hla]; exact hlt))
                have c2 := cell_grew (show wr.cell? ⟨R, k, none⟩ = some (.int .u32 y) by rw [← hy]; exact cell_ofN HF.out.2.2.1 k (by rw [hlr]; exact hlt))
                have a1 : IntKind.u32.wrap ((x : Int) + (y : Int)) = ((add32 x y : Nat) : Int) := u32_add _ _
                have hs : (addTo hs row k).set k (add32 x y) = addTo hs row (k + 1) := by
                  rw [← addTo_succ, ← hx, ← hy, addTo_at _ _ _ _ hlt, if_neg (Nat.lt_irrefl _)]
                have HS := Lib.hid hs
                generalize add32 x y = z at a1 HS
                clear hx hy hla hlr hs
                go_upto_region 26 with fail
                refine wp_region_grew_tail 8 (by kernel_rfl) (by kernel_rfl) ?_
                simp only [List.take_succ_cons, List.take_zero, List.drop_succ_cons, List.drop_zero]
                repeat (first | go_big_quiet_skip | (go_big_quiet_want; go_big_quiet_op; go_big_quiet_on))
                refine wpQuiet_nil ?_
                intro w5 hw5
                obtain ⟨p, rfl⟩ := hw5
                have hbel := below_grew wr p
                have HF5 := Lib.hid (show Blk (grew wr p) w.heap.size 42 (ofN (addTo hs row k)) ∧ Blk (grew wr p) (w.heap.size + 2) 42 (ofN [0, 0, 0, 0, 0, 0, 0, 0]) ∧ Blk (grew wr p) R 42 (ofN row) ∧ Below w.heap.size w (grew wr p) from
                  ⟨HF.out.1.below hbel HF.out.1.lt, HF.out.2.1.below hbel HF.out.2.1.lt, HF.out.2.2.1.below hbel HF.out.2.2.1.lt, below_thn HF.out.2.2.2 hbel (Nat.le_refl _)⟩)
                have c15 := c1 p
                have f15 : (grew wr p).frozen? ⟨w.heap.size, k, none⟩ = false := HF5.out.1.free k
                clear c1 c2 hbel HF
                generalize grew wr p = w5 at HF5 c15 f15 ⊢
                go_wp2_with fail
                go_roundw
                case rel =>
                  have hset := Ch.set w5 ⟨w.heap.size, k, none⟩ (.int .u32 (z : Nat))
                  refine ⟨k + 1, by omega, by go_num, Lib.hid ⟨?_, HF5.out.2.1.keep hset (fun h => by have h2 : w.heap.size + 2 = w.heap.size := h; omega), HF5.out.2.2.1.keep hset (fun h => by have h2 : R = w.heap.size := h; omega), below_ch HF5.out.2.2.2 hset (Nat.le_refl _) (fun i hi => by have hi2 : i = w.heap.size := hi; omega)⟩⟩
                  have h1 := HF5.out.1.set k (.int .u32 (z : Nat))
                  have e : (ofN (addTo hs row k)).set k (.int .u32 (z : Nat)) = ofN (addTo hs row (k + 1)) := by rw [← HS.out]; simp [ofN, List.map_set]
                  rw [e] at h1
                  exact h1
                case measure => simp [intOf]; omega
              · have hk8 : k = 8 := by omega
                subst hk8
                clear hlt hk
                go_upto_region 28 with fail
                iterate 1 go_step
                refine wpList_load_blk _ rfl 42 (.tmp 2) rfl w.heap.size 42 (ofN (addTo hs row 8)) HF.out.1 rfl _ Try.underlying42 rfl (by rw [ofN_length, addTo_length]; kernel_rfl) ?_
                refine wpList_store_blk _ rfl 42 (.tmp 4) (.tmp 157) rfl (w.heap.size + 2) 42 (ofN [0, 0, 0, 0, 0, 0, 0, 0]) (ofN (addTo hs row 8)) HF.out.2.1 rfl rfl (by rw [ofN_length, addTo_length]; rfl) (by rw [ofN_length, addTo_length]; kernel_rfl) (one_ofN _) ?_
                intro w2 hb2 hch hsz
                have hbl : blockN hs bs = addTo hs row 8 := by
                  rw [addTo_all H1.out.1 HG.out.1.hr]; unfold blockN; rw [HG.out.2]
                have HE := Lib.hid hbl
                have HB2 := Lib.hid (And.intro hb2 (below_ch HF.out.2.2.2 hch (Nat.le_refl _) (fun i hi => by have hi2 : i = w.heap.size + 2 := hi; omega)))
                clear hb2 hch hsz hbl HF
                go_wp2
                refine bodyPost_ret (v := .agg (ofN (addTo hs row 8)).toArray) ?_ rfl ⟨by rw [HE.out], HB2.out.2⟩
                exact results_blk Try.results39 _ _ (w.heap.size + 2) _ _ rfl HB2.out.1 _ Try.underlying42 rfl (by rw [ofN_length, addTo_length]; kernel_rfl)

end Go.Proofs.Ytkbhehnpgnilmaa
