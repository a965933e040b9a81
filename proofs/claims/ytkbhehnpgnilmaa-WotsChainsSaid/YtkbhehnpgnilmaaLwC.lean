/-
  Law 06: WotsChains, walked. Conditions: bytes.
-/
import Derived.Test.YtkbhehnpgnilmaaLwZ
import Derived.Test.YtkbhehnpgnilmaaFrameW
namespace Go.Proofs.Ytkbhehnpgnilmaa
open Go Go.RowKit
set_option linter.unusedSimpArgs false

theorem start_gen (x : List Int) (c : Int) (hx : IsD x) : ∃ y e, IsD y ∧ ((0 ≤ c ∧ c < 67) → startB x c = y ∧ e = 0) ∧ (¬ (0 ≤ c ∧ c < 67) → y = zer32 ∧ e = 2) ∧ ∀ w, Calls Try.prog 51 #[.agg (ofK .u8 x).toArray, .int .i64 c] w (DigP w y e) := by
  by_cases h : 0 ≤ c ∧ c < 67
  · exact ⟨startB x c, 0, isD_start hx c, fun _ => ⟨rfl, rfl⟩, fun k => absurd h k, fun w => start_ok x c w hx h.1 h.2⟩
  · exact ⟨zer32, 2, isD_zer, fun k => absurd k h, fun _ => ⟨rfl, rfl⟩, fun w => start_bad x c w hx h⟩
theorem step_gen (x : List Int) (c a : Int) (hx : IsD x) : ∃ y e, IsD y ∧ (((0 ≤ c ∧ c < 67) ∧ 0 ≤ a ∧ a < 15) → stepB x c a = y ∧ e = 0) ∧ (¬ ((0 ≤ c ∧ c < 67) ∧ 0 ≤ a ∧ a < 15) → y = zer32 ∧ e = 2) ∧ ∀ w, Calls Try.prog 52 #[.agg (ofK .u8 x).toArray, .int .i64 c, .int .i64 a] w (DigP w y e) := by
  by_cases h : (0 ≤ c ∧ c < 67) ∧ 0 ≤ a ∧ a < 15
  · exact ⟨stepB x c a, 0, isD_step hx c a, fun _ => ⟨rfl, rfl⟩, fun k => absurd h k, fun w => step_ok x c a w hx h.1.1 h.1.2 h.2.1 h.2.2⟩
  · exact ⟨zer32, 2, isD_zer, fun k => absurd k h, fun _ => ⟨rfl, rfl⟩, fun w => step_bad x c a w hx h⟩
theorem chain_gen (x : List Int) (c a b : Int) (hx : IsD x) : ∃ y e, IsD y ∧ (ChOk c a b → walkB x c a (b - a).toNat = y ∧ e = 0) ∧ (¬ ChOk c a b → y = zer32 ∧ e = 2) ∧ ∀ w, Calls Try.prog 53 #[.agg (ofK .u8 x).toArray, .int .i64 c, .int .i64 a, .int .i64 b] w (DigP w y e) := by
  by_cases h : ChOk c a b
  · exact ⟨walkB x c a (b - a).toNat, 0, isD_walk hx c a _, fun _ => ⟨rfl, rfl⟩, fun k => absurd h k, fun w => chain_good x c a b w hx h⟩
  · exact ⟨zer32, 2, isD_zer, fun k => absurd k h, fun _ => ⟨rfl, rfl⟩, fun w => chain_bad x c a b w hx h⟩

def zerW : List Value := walkC ⟨zer32, 0, 0, 0⟩
theorem Try.zeroW : ∀ w, (zeroValue 60).run Try.prog w = .ok (.agg zerW.toArray) w := fun w => by kernel_rfl
theorem Try.infoW : (Try.prog.info? 60).map (·.size) = some 35 := by kernel_rfl
theorem walkC_len {q : WalkD} (h : IsD q.x) : (walkC q).length = 35 := by unfold walkC; rw [List.length_append, length_ofK, h.1]; rfl
theorem walkC_one (q : WalkD) : ∀ v ∈ walkC q, v.oneCell' = true := fun v hv => by
  unfold walkC at hv
  rcases List.mem_append.1 hv with hv | hv
  · exact one_ofK _ _ v hv
  · simp at hv
    rcases hv with rfl | rfl | rfl <;> rfl
theorem walk_parts {w : World} {g : Nat} {q : WalkD} (h : w.rangeAt g 0 (walkC q)) (hx : IsD q.x) : w.rangeAt g 0 (ofK .u8 q.x) ∧ w.cell? ⟨g, 32, none⟩ = some (.int .i64 q.c) ∧ w.cell? ⟨g, 33, none⟩ = some (.int .i64 q.a) ∧ w.cell? ⟨g, 34, none⟩ = some (.int .i64 q.b) := by
  have hl : (ofK .u8 q.x).length = 32 := by rw [length_ofK, hx.1]
  have hr : ∀ i, i < 3 → (walkC q)[32 + i]? = [Value.int .i64 q.c, .int .i64 q.a, .int .i64 q.b][i]? := fun i _ => by
    unfold walkC
    rw [List.getElem?_append_right (by omega), hl, show 32 + i - 32 = i by omega]
  refine ⟨fun j v hv => h j v ?_, ?_, ?_, ?_⟩
  · unfold walkC
    rw [List.getElem?_append_left (List.getElem?_eq_some_iff.1 hv).1]
    exact hv
  · exact (by simpa using h 32 (.int .i64 q.c) (hr 0 (by omega)))
  · exact (by simpa using h 33 (.int .i64 q.a) (hr 1 (by omega)))
  · exact (by simpa using h 34 (.int .i64 q.b) (hr 2 (by omega)))

set_option maxRecDepth 100000 in
set_option maxHeartbeats 16000000 in
theorem wotsChains_walk (v : Value) (r : List WalkD) (w : World) (hv : SlF w v 35 walkC r) (hr : NilC v ∧ ∀ q ∈ r, WalkOk q) :
    Calls Try.prog 12 #[v] w (TrueP w) := by
  obtain ⟨ao, cp, rfl, hcp, hcp2, hcell⟩ := hv
  have HV := Lib.hid (And.intro hcell hr.2)
  obtain ⟨n, hnl⟩ : ∃ n, r.length = n := ⟨_, rfl⟩
  rw [hnl] at hcp ⊢
  have HN := Lib.hid hnl
  have hn63 : n ≤ 9223372036854775807 := by omega
  clear hr hcell hnl
  have HZI := Lib.hid (infoD isD_zer)
  go_enter Try.func12, Try.ntmps12
  go_wp2_with fail
  refine (wakes6_any w).mono ?_
  rintro e w3 ⟨rfl, hb3⟩
  have H3 := Lib.hid hb3
  clear hb3
  go_wp2_with fail
  go_loopw [16] (fun c wr => ∃ k : Nat, k ≤ 20 ∧ k ≤ n ∧ c = .int .i64 k ∧ Hid (Below w.heap.size w wr)) (fun c _ => 20 - (intOf c).toNat)
  case atStart => exact ⟨0, by omega, by omega, rfl, H3⟩
  case round =>
    obtain ⟨k, hk, hkn, rfl, HR⟩ := hrel
    clear H3
    by_cases hlt : k < n
    · have hk32 : (k : Int) < n := by omega
      have hk0 : (0 : Int) ≤ (k : Int) := by omega
      have hka : k < r.length := by rw [HN.out]; exact hlt
      obtain ⟨ag, ago, rfl, hca⟩ := HV.out.1 (by omega)
      have HC := Lib.hid (rangeW_below (hca k hka) HR.out)
      have hq := HV.out.2 _ (List.getElem_mem hka)
      generalize r[k] = q at HC hq
      obtain ⟨x, c, a, b⟩ := q
      have hxD : IsD x := hq.1
      have HXD := Lib.hid hxD
      have HXI := Lib.hid (infoD HXD.out)
      have HXL := Lib.hid (lenD HXD.out isD_zer)
      have HQI := Lib.hid (show (Try.prog.info? 60).map (·.size) = some (walkC ⟨x, c, a, b⟩).length by rw [walkC_len hxD]; exact Try.infoW)
      have HQL := Lib.hid (show (walkC ⟨x, c, a, b⟩).length = zerW.length by rw [walkC_len hxD]; exact (walkC_len isD_zer).symm)
      have HQ1 := Lib.hid (walkC_one ⟨x, c, a, b⟩)
      have HQP := Lib.hid (fun (w' : World) (g : Nat) (h : w'.rangeAt g 0 (walkC ⟨x, c, a, b⟩)) => walk_parts h hxD)
      clear hca hka hxD hq
      by_cases h20 : k = 20
      · subst h20
        go_wp2_with (first
    | (with_reducible refine wpList_load_any rfl 60 (.tmp 19) rfl ag (ago + 20 * 35) rfl (walkC ⟨x, c, a, b⟩) _ HC.out Try.underlying60 rfl HQI.out ?_)
    | ((with_reducible refine wpList_alloc_blk wr rfl 60 rfl zerW Try.zeroW ?_); intro w4 hb hbel hsz; have HA := Lib.hid (And.intro hb hbel); clear hb hbel hsz)
    | ((with_reducible refine wpList_store_blk w4 rfl 60 (.tmp 4) (.tmp 20) rfl wr.heap.size 60 zerW (walkC ⟨x, c, a, b⟩) HA.out.1 rfl rfl HQL.out HQI.out HQ1.out ?_); intro w5 hb hc hs; have hbw : Below wr.heap.size wr w5 := below_ch HA.out.2 hc (Nat.le_refl _) (fun j hj => by have : j = wr.heap.size := hj; omega); have H5 := Lib.hid (below_thn HR.out hbw (Nat.le_refl _)); clear hb hc hs hbw))
        go_ret
        exact ⟨rfl, H5.out⟩
      · have hk20 : ((k : Int) == 20) = false := by simp; omega
        have hk19 : k < 20 := by omega
        clear h20
        obtain ⟨y1, e1, h1D, h1a, h1b, h1c⟩ := start_gen x c HXD.out
        obtain ⟨y2, e2, h2D, h2a, h2b, h2c⟩ := step_gen x c a HXD.out
        obtain ⟨y3, e3, h3D, h3a, h3b, h3c⟩ := chain_gen x c a b HXD.out
        have HS1 := Lib.hid (And.intro h1a (And.intro h1b h1c))
        have HS2 := Lib.hid (And.intro h2a (And.intro h2b h2c))
        have HS3 := Lib.hid (And.intro h3a (And.intro h3b h3c))
        have HPD := Lib.hid h1D
        have HPI := Lib.hid (infoD HPD.out)
        have HPL := Lib.hid (lenD HPD.out isD_zer)
        have HTD := Lib.hid h2D
        have HTI := Lib.hid (infoD HTD.out)
        have HTL := Lib.hid (lenD HTD.out isD_zer)
        have HUD := Lib.hid h3D
        have HUI := Lib.hid (infoD HUD.out)
        have HUL := Lib.hid (lenD HUD.out isD_zer)
        clear h1D h1a h1b h1c h2D h2a h2b h2c h3D h3a h3b h3c
        go_wp2_with (first
    | (with_reducible refine wpList_load_any rfl 60 (.tmp 19) rfl ag (ago + k * 35) rfl (walkC ⟨x, c, a, b⟩) _ HC.out Try.underlying60 rfl HQI.out ?_)
    | ((with_reducible refine wpList_alloc_blk wr rfl 60 rfl zerW Try.zeroW ?_); intro w4 hb hbel hsz; have HA := Lib.hid (And.intro hb hbel); clear hb hbel hsz)
    | ((with_reducible refine wpList_store_blk w4 rfl 60 (.tmp 4) (.tmp 20) rfl wr.heap.size 60 zerW (walkC ⟨x, c, a, b⟩) HA.out.1 rfl rfl HQL.out HQI.out HQ1.out ?_); intro w5 hb hc hs; have hbw : Below wr.heap.size wr w5 := below_ch HA.out.2 hc (Nat.le_refl _) (fun j hj => by have : j = wr.heap.size := hj; omega); have hp5 := HQP.out w5 wr.heap.size (rangeW_blk hb); have H5 := Lib.hid (show w5.rangeAt wr.heap.size 0 (ofK .u8 x) ∧ w5.cell? ⟨wr.heap.size, 32, none⟩ = some (.int .i64 c) ∧ w5.cell? ⟨wr.heap.size, 33, none⟩ = some (.int .i64 a) ∧ w5.cell? ⟨wr.heap.size, 34, none⟩ = some (.int .i64 b) ∧ Below w.heap.size w w5 from ⟨hp5.1, hp5.2.1, hp5.2.2.1, hp5.2.2.2, below_thn HR.out hbw (Nat.le_refl _)⟩); clear hp5; have ca32 := H5.out.2.1; have ca33 := H5.out.2.2.1; have ca34 := H5.out.2.2.2.1; clear hb hc hs hbw)
    | (with_reducible refine wpList_load_any rfl 23 (.tmp 24) rfl wr.heap.size 0 rfl (ofK .u8 x) _ H5.out.1 Try.underlying23 rfl HXI.out ?_))
        refine (HS1.out.2.2 w5).mono ?_
        rintro e w6 ⟨rfl, hb6⟩
        have H6 := Lib.hid (show w6.rangeAt wr.heap.size 0 (ofK .u8 x) ∧ w6.cell? ⟨wr.heap.size, 32, none⟩ = some (.int .i64 c) ∧ w6.cell? ⟨wr.heap.size, 33, none⟩ = some (.int .i64 a) ∧ w6.cell? ⟨wr.heap.size, 34, none⟩ = some (.int .i64 b) ∧ Below w.heap.size w w6 from ⟨rangeW_below H5.out.1 hb6, (hb6.cell (p := ⟨wr.heap.size, 32, none⟩) (block_of_cell H5.out.2.1)).trans H5.out.2.1, (hb6.cell (p := ⟨wr.heap.size, 33, none⟩) (block_of_cell H5.out.2.2.1)).trans H5.out.2.2.1, (hb6.cell (p := ⟨wr.heap.size, 34, none⟩) (block_of_cell H5.out.2.2.2.1)).trans H5.out.2.2.2.1, below_thn H5.out.2.2.2.2 hb6 (Nat.le_refl _)⟩)
        clear hb6 ca32 ca33 ca34 HA HC
        go_wp2_with (first
    | ((with_reducible refine wpList_alloc_blk w6 rfl 23 rfl (ofK .u8 zer32) Try.zeroId ?_); intro w7 hb hbel hsz; have HAH8 := Lib.hid (And.intro hb hbel); clear hb hbel hsz)
    | ((with_reducible refine wpList_store_blk w7 rfl 23 (.tmp 5) (.tmp 29) rfl w6.heap.size 23 (ofK .u8 zer32) (ofK .u8 y1) HAH8.out.1 rfl rfl HPL.out HPI.out (one_ofK _ _) ?_); intro w8 hb hc hs; have HBH8 := Lib.hid (show w8.rangeAt w6.heap.size 0 (ofK .u8 y1) ∧ Below w6.heap.size w6 w8 from ⟨rangeW_blk hb, below_ch HAH8.out.2 hc (Nat.le_refl _) (fun j hj => by have : j = w6.heap.size := hj; omega)⟩); have H8 := Lib.hid (show w8.rangeAt wr.heap.size 0 (ofK .u8 x) ∧ w8.cell? ⟨wr.heap.size, 32, none⟩ = some (.int .i64 c) ∧ w8.cell? ⟨wr.heap.size, 33, none⟩ = some (.int .i64 a) ∧ w8.cell? ⟨wr.heap.size, 34, none⟩ = some (.int .i64 b) ∧ w8.rangeAt w6.heap.size 0 (ofK .u8 y1) ∧ Below w.heap.size w w8 from ⟨rangeW_below H6.out.1 HBH8.out.2, (HBH8.out.2.cell (p := ⟨wr.heap.size, 32, none⟩) (block_of_cell H6.out.2.1)).trans H6.out.2.1, (HBH8.out.2.cell (p := ⟨wr.heap.size, 33, none⟩) (block_of_cell H6.out.2.2.1)).trans H6.out.2.2.1, (HBH8.out.2.cell (p := ⟨wr.heap.size, 34, none⟩) (block_of_cell H6.out.2.2.2.1)).trans H6.out.2.2.2.1, HBH8.out.1, below_thn H6.out.2.2.2.2 HBH8.out.2 (Nat.le_refl _)⟩); have cb32 := H8.out.2.1; have cb33 := H8.out.2.2.1; have cb34 := H8.out.2.2.2.1; clear hb hc hs)
    | (with_reducible refine wpList_load_any rfl 23 (.tmp 32) rfl wr.heap.size 0 rfl (ofK .u8 x) _ H8.out.1 Try.underlying23 rfl HXI.out ?_))
        refine (HS2.out.2.2 w8).mono ?_
        rintro e w9 ⟨rfl, hb9⟩
        have H9 := Lib.hid (show w9.rangeAt wr.heap.size 0 (ofK .u8 x) ∧ w9.cell? ⟨wr.heap.size, 32, none⟩ = some (.int .i64 c) ∧ w9.cell? ⟨wr.heap.size, 33, none⟩ = some (.int .i64 a) ∧ w9.cell? ⟨wr.heap.size, 34, none⟩ = some (.int .i64 b) ∧ w9.rangeAt w6.heap.size 0 (ofK .u8 y1) ∧ Below w.heap.size w w9 from ⟨rangeW_below H8.out.1 hb9, (hb9.cell (p := ⟨wr.heap.size, 32, none⟩) (block_of_cell H8.out.2.1)).trans H8.out.2.1, (hb9.cell (p := ⟨wr.heap.size, 33, none⟩) (block_of_cell H8.out.2.2.1)).trans H8.out.2.2.1, (hb9.cell (p := ⟨wr.heap.size, 34, none⟩) (block_of_cell H8.out.2.2.2.1)).trans H8.out.2.2.2.1, rangeW_below H8.out.2.2.2.2.1 hb9, below_thn H8.out.2.2.2.2.2 hb9 (Nat.le_refl _)⟩)
        clear hb9 cb32 cb33 cb34
        go_wp2_with (first
    | ((with_reducible refine wpList_alloc_blk w9 rfl 23 rfl (ofK .u8 zer32) Try.zeroId ?_); intro w10 hb hbel hsz; have HAH11 := Lib.hid (And.intro hb hbel); clear hb hbel hsz)
    | ((with_reducible refine wpList_store_blk w10 rfl 23 (.tmp 7) (.tmp 39) rfl w9.heap.size 23 (ofK .u8 zer32) (ofK .u8 y2) HAH11.out.1 rfl rfl HTL.out HTI.out (one_ofK _ _) ?_); intro w11 hb hc hs; have HBH11 := Lib.hid (show w11.rangeAt w9.heap.size 0 (ofK .u8 y2) ∧ Below w9.heap.size w9 w11 from ⟨rangeW_blk hb, below_ch HAH11.out.2 hc (Nat.le_refl _) (fun j hj => by have : j = w9.heap.size := hj; omega)⟩); have H11 := Lib.hid (show w11.rangeAt wr.heap.size 0 (ofK .u8 x) ∧ w11.cell? ⟨wr.heap.size, 32, none⟩ = some (.int .i64 c) ∧ w11.cell? ⟨wr.heap.size, 33, none⟩ = some (.int .i64 a) ∧ w11.cell? ⟨wr.heap.size, 34, none⟩ = some (.int .i64 b) ∧ w11.rangeAt w6.heap.size 0 (ofK .u8 y1) ∧ w11.rangeAt w9.heap.size 0 (ofK .u8 y2) ∧ Below w.heap.size w w11 from ⟨rangeW_below H9.out.1 HBH11.out.2, (HBH11.out.2.cell (p := ⟨wr.heap.size, 32, none⟩) (block_of_cell H9.out.2.1)).trans H9.out.2.1, (HBH11.out.2.cell (p := ⟨wr.heap.size, 33, none⟩) (block_of_cell H9.out.2.2.1)).trans H9.out.2.2.1, (HBH11.out.2.cell (p := ⟨wr.heap.size, 34, none⟩) (block_of_cell H9.out.2.2.2.1)).trans H9.out.2.2.2.1, rangeW_below H9.out.2.2.2.2.1 HBH11.out.2, HBH11.out.1, below_thn H9.out.2.2.2.2.2 HBH11.out.2 (Nat.le_refl _)⟩); have cc32 := H11.out.2.1; have cc33 := H11.out.2.2.1; have cc34 := H11.out.2.2.2.1; clear hb hc hs)
    | (with_reducible refine wpList_load_any rfl 23 (.tmp 42) rfl wr.heap.size 0 rfl (ofK .u8 x) _ H11.out.1 Try.underlying23 rfl HXI.out ?_))
        refine (HS3.out.2.2 w11).mono ?_
        rintro e w12 ⟨rfl, hb12⟩
        have H12 := Lib.hid (show w12.rangeAt wr.heap.size 0 (ofK .u8 x) ∧ w12.cell? ⟨wr.heap.size, 32, none⟩ = some (.int .i64 c) ∧ w12.cell? ⟨wr.heap.size, 33, none⟩ = some (.int .i64 a) ∧ w12.cell? ⟨wr.heap.size, 34, none⟩ = some (.int .i64 b) ∧ w12.rangeAt w6.heap.size 0 (ofK .u8 y1) ∧ w12.rangeAt w9.heap.size 0 (ofK .u8 y2) ∧ Below w.heap.size w w12 from ⟨rangeW_below H11.out.1 hb12, (hb12.cell (p := ⟨wr.heap.size, 32, none⟩) (block_of_cell H11.out.2.1)).trans H11.out.2.1, (hb12.cell (p := ⟨wr.heap.size, 33, none⟩) (block_of_cell H11.out.2.2.1)).trans H11.out.2.2.1, (hb12.cell (p := ⟨wr.heap.size, 34, none⟩) (block_of_cell H11.out.2.2.2.1)).trans H11.out.2.2.2.1, rangeW_below H11.out.2.2.2.2.1 hb12, rangeW_below H11.out.2.2.2.2.2.1 hb12, below_thn H11.out.2.2.2.2.2.2 hb12 (Nat.le_refl _)⟩)
        clear hb12 cc32 cc33 cc34
        by_cases c0 : 0 ≤ c
        · by_cases c1 : c < 67
          · by_cases a0 : 0 ≤ a
            · by_cases a1 : a < 15
              · by_cases k1 : a ≤ b
                · by_cases k2 : b ≤ 15
                  · skip
                    obtain ⟨hy1, rfl⟩ := HS1.out.1 (by omega)
                    obtain ⟨hy2, rfl⟩ := HS2.out.1 (by omega)
                    obtain ⟨hy3, rfl⟩ := HS3.out.1 (by unfold ChOk; omega)
                    have HE := Lib.hid (And.intro hy1 (And.intro hy2 hy3))
                    clear hy1 hy2 hy3
                    have he := fun w => eq_ids w y1 y1 true HPD.out HPD.out (decide_eq_true rfl)
                    have he2 := fun w => eq_ids w y2 y2 true HTD.out HTD.out (decide_eq_true rfl)
                    have he3 := fun w => eq_ids w y3 y3 true HUD.out HUD.out (decide_eq_true rfl)
                    go_wp2_with (first
    | ((with_reducible refine wpList_alloc_blk w12 rfl 23 rfl (ofK .u8 zer32) Try.zeroId ?_); intro w13 hb hbel hsz; have HAH14 := Lib.hid (And.intro hb hbel); clear hb hbel hsz)
    | ((with_reducible refine wpList_store_blk w13 rfl 23 (.tmp 9) (.tmp 51) rfl w12.heap.size 23 (ofK .u8 zer32) (ofK .u8 y3) HAH14.out.1 rfl rfl HUL.out HUI.out (one_ofK _ _) ?_); intro w14 hb hc hs; have HBH14 := Lib.hid (show w14.rangeAt w12.heap.size 0 (ofK .u8 y3) ∧ Below w12.heap.size w12 w14 from ⟨rangeW_blk hb, below_ch HAH14.out.2 hc (Nat.le_refl _) (fun j hj => by have : j = w12.heap.size := hj; omega)⟩); have H14 := Lib.hid (show w14.rangeAt wr.heap.size 0 (ofK .u8 x) ∧ w14.cell? ⟨wr.heap.size, 32, none⟩ = some (.int .i64 c) ∧ w14.cell? ⟨wr.heap.size, 33, none⟩ = some (.int .i64 a) ∧ w14.cell? ⟨wr.heap.size, 34, none⟩ = some (.int .i64 b) ∧ w14.rangeAt w6.heap.size 0 (ofK .u8 y1) ∧ w14.rangeAt w9.heap.size 0 (ofK .u8 y2) ∧ w14.rangeAt w12.heap.size 0 (ofK .u8 y3) ∧ Below w.heap.size w w14 from ⟨rangeW_below H12.out.1 HBH14.out.2, (HBH14.out.2.cell (p := ⟨wr.heap.size, 32, none⟩) (block_of_cell H12.out.2.1)).trans H12.out.2.1, (HBH14.out.2.cell (p := ⟨wr.heap.size, 33, none⟩) (block_of_cell H12.out.2.2.1)).trans H12.out.2.2.1, (HBH14.out.2.cell (p := ⟨wr.heap.size, 34, none⟩) (block_of_cell H12.out.2.2.2.1)).trans H12.out.2.2.2.1, rangeW_below H12.out.2.2.2.2.1 HBH14.out.2, rangeW_below H12.out.2.2.2.2.2.1 HBH14.out.2, HBH14.out.1, below_thn H12.out.2.2.2.2.2.2 HBH14.out.2 (Nat.le_refl _)⟩); have cd32 := H14.out.2.1; have cd33 := H14.out.2.2.1; have cd34 := H14.out.2.2.2.1; clear hb hc hs)
    | ((with_reducible refine wpList_load_want ?_ 23 (.tmp 5) rfl w6.heap.size 0 rfl (ofK .u8 y1) _ H14.out.2.2.2.2.1 Try.underlying23 rfl HPI.out ?_); focus rfl)
    | ((with_reducible refine wpList_load_want ?_ 23 (.tmp 7) rfl w9.heap.size 0 rfl (ofK .u8 y2) _ H14.out.2.2.2.2.2.1 Try.underlying23 rfl HTI.out ?_); focus rfl)
    | ((with_reducible refine wpList_load_want ?_ 23 (.tmp 9) rfl w12.heap.size 0 rfl (ofK .u8 y3) _ H14.out.2.2.2.2.2.2.1 Try.underlying23 rfl HUI.out ?_); focus rfl)
    | ((with_reducible refine wpList_build_zer ?_ rfl ?_); focus rfl))
                    have C1 := Lib.hid (fun q => lstart_any x c (grew w14 q) HXD.out (by omega) (by omega))
                    rw [HE.out.1] at C1
                    have g32 := fun q => cell_grew H14.out.2.1 q; have g33 := fun q => cell_grew H14.out.2.2.1 q; have g34 := fun q => cell_grew H14.out.2.2.2.1 q
                    clear cd32 cd33 cd34
                    refine wp_region_grew (by kernel_rfl) (by kernel_rfl) ?_
                    repeat (first | go_big_quiet_skip | (go_big_quiet_want; (first | (refine quiet_load_mid 23 (.tmp 5) rfl w6.heap.size 0 rfl (ofK .u8 y1) _ (fun w' hw' => rangeAt_grew H14.out.2.2.2.2.1 w' hw') Try.underlying23 rfl HPI.out ?_; go_simp; go_big_quiet_on) | (refine quiet_load_mid 23 (.tmp 66) rfl wr.heap.size 0 rfl (ofK .u8 x) _ (fun w' hw' => rangeAt_grew H14.out.1 w' hw') Try.underlying23 rfl HXI.out ?_; go_simp; go_big_quiet_on) | (go_big_quiet_op; (first | go_big_quiet_on | (apply Exists.intro; refine ⟨fun _ => ?_, ?_⟩; (focus (first | (go_at_call 54; exact calls_grew (C1.out _)))); go_big_quiet_on))))))
                    refine wpQuiet_nil ?_
                    intro w15 hw15
                    obtain ⟨q, rfl⟩ := hw15
                    have H15 := Lib.hid (show (grew w14 q).rangeAt wr.heap.size 0 (ofK .u8 x) ∧ (grew w14 q).cell? ⟨wr.heap.size, 32, none⟩ = some (.int .i64 c) ∧ (grew w14 q).cell? ⟨wr.heap.size, 33, none⟩ = some (.int .i64 a) ∧ (grew w14 q).cell? ⟨wr.heap.size, 34, none⟩ = some (.int .i64 b) ∧ (grew w14 q).rangeAt w6.heap.size 0 (ofK .u8 y1) ∧ (grew w14 q).rangeAt w9.heap.size 0 (ofK .u8 y2) ∧ (grew w14 q).rangeAt w12.heap.size 0 (ofK .u8 y3) ∧ Below w.heap.size w (grew w14 q) from ⟨rangeW_below H14.out.1 (below_grew w14 q), ((below_grew w14 q).cell (p := ⟨wr.heap.size, 32, none⟩) (block_of_cell H14.out.2.1)).trans H14.out.2.1, ((below_grew w14 q).cell (p := ⟨wr.heap.size, 33, none⟩) (block_of_cell H14.out.2.2.1)).trans H14.out.2.2.1, ((below_grew w14 q).cell (p := ⟨wr.heap.size, 34, none⟩) (block_of_cell H14.out.2.2.2.1)).trans H14.out.2.2.2.1, rangeW_below H14.out.2.2.2.2.1 (below_grew w14 q), rangeW_below H14.out.2.2.2.2.2.1 (below_grew w14 q), rangeW_below H14.out.2.2.2.2.2.2.1 (below_grew w14 q), below_thn H14.out.2.2.2.2.2.2.2 (below_grew w14 q) (Nat.le_refl _)⟩)
                    clear C1 g32 g33 g34
                    generalize grew w14 q = w15 at H15 ⊢
                    have ce1532 := H15.out.2.1; have ce1533 := H15.out.2.2.1; have ce1534 := H15.out.2.2.2.1
                    go_wp2_with (first
    | ((with_reducible refine wpList_load_want ?_ 23 (.tmp 5) rfl w6.heap.size 0 rfl (ofK .u8 y1) _ H15.out.2.2.2.2.1 Try.underlying23 rfl HPI.out ?_); focus rfl)
    | ((with_reducible refine wpList_load_want ?_ 23 (.tmp 7) rfl w9.heap.size 0 rfl (ofK .u8 y2) _ H15.out.2.2.2.2.2.1 Try.underlying23 rfl HTI.out ?_); focus rfl)
    | ((with_reducible refine wpList_load_want ?_ 23 (.tmp 9) rfl w12.heap.size 0 rfl (ofK .u8 y3) _ H15.out.2.2.2.2.2.2.1 Try.underlying23 rfl HUI.out ?_); focus rfl)
    | ((with_reducible refine wpList_build_zer ?_ rfl ?_); focus rfl))
                    have C1 := Lib.hid (fun q => lstep_any x c a (grew w15 q) HXD.out (by omega) (by omega) (by omega) (by omega))
                    rw [HE.out.2.1] at C1
                    have g32 := fun q => cell_grew H15.out.2.1 q; have g33 := fun q => cell_grew H15.out.2.2.1 q; have g34 := fun q => cell_grew H15.out.2.2.2.1 q
                    clear ce1532 ce1533 ce1534
                    refine wp_region_grew (by kernel_rfl) (by kernel_rfl) ?_
                    repeat (first | go_big_quiet_skip | (go_big_quiet_want; (first | (refine quiet_load_mid 23 (.tmp 7) rfl w9.heap.size 0 rfl (ofK .u8 y2) _ (fun w' hw' => rangeAt_grew H15.out.2.2.2.2.2.1 w' hw') Try.underlying23 rfl HTI.out ?_; go_simp; go_big_quiet_on) | (refine quiet_load_mid 23 (.tmp 95) rfl wr.heap.size 0 rfl (ofK .u8 x) _ (fun w' hw' => rangeAt_grew H15.out.1 w' hw') Try.underlying23 rfl HXI.out ?_; go_simp; go_big_quiet_on) | (go_big_quiet_op; (first | go_big_quiet_on | (apply Exists.intro; refine ⟨fun _ => ?_, ?_⟩; (focus (first | (go_at_call 55; exact calls_grew (C1.out _)))); go_big_quiet_on))))))
                    refine wpQuiet_nil ?_
                    intro w16 hw16
                    obtain ⟨q, rfl⟩ := hw16
                    have H16 := Lib.hid (show (grew w15 q).rangeAt wr.heap.size 0 (ofK .u8 x) ∧ (grew w15 q).cell? ⟨wr.heap.size, 32, none⟩ = some (.int .i64 c) ∧ (grew w15 q).cell? ⟨wr.heap.size, 33, none⟩ = some (.int .i64 a) ∧ (grew w15 q).cell? ⟨wr.heap.size, 34, none⟩ = some (.int .i64 b) ∧ (grew w15 q).rangeAt w6.heap.size 0 (ofK .u8 y1) ∧ (grew w15 q).rangeAt w9.heap.size 0 (ofK .u8 y2) ∧ (grew w15 q).rangeAt w12.heap.size 0 (ofK .u8 y3) ∧ Below w.heap.size w (grew w15 q) from ⟨rangeW_below H15.out.1 (below_grew w15 q), ((below_grew w15 q).cell (p := ⟨wr.heap.size, 32, none⟩) (block_of_cell H15.out.2.1)).trans H15.out.2.1, ((below_grew w15 q).cell (p := ⟨wr.heap.size, 33, none⟩) (block_of_cell H15.out.2.2.1)).trans H15.out.2.2.1, ((below_grew w15 q).cell (p := ⟨wr.heap.size, 34, none⟩) (block_of_cell H15.out.2.2.2.1)).trans H15.out.2.2.2.1, rangeW_below H15.out.2.2.2.2.1 (below_grew w15 q), rangeW_below H15.out.2.2.2.2.2.1 (below_grew w15 q), rangeW_below H15.out.2.2.2.2.2.2.1 (below_grew w15 q), below_thn H15.out.2.2.2.2.2.2.2 (below_grew w15 q) (Nat.le_refl _)⟩)
                    clear C1 g32 g33 g34
                    generalize grew w15 q = w16 at H16 ⊢
                    have ce1632 := H16.out.2.1; have ce1633 := H16.out.2.2.1; have ce1634 := H16.out.2.2.2.1
                    go_wp2_with (first
    | ((with_reducible refine wpList_load_want ?_ 23 (.tmp 5) rfl w6.heap.size 0 rfl (ofK .u8 y1) _ H16.out.2.2.2.2.1 Try.underlying23 rfl HPI.out ?_); focus rfl)
    | ((with_reducible refine wpList_load_want ?_ 23 (.tmp 7) rfl w9.heap.size 0 rfl (ofK .u8 y2) _ H16.out.2.2.2.2.2.1 Try.underlying23 rfl HTI.out ?_); focus rfl)
    | ((with_reducible refine wpList_load_want ?_ 23 (.tmp 9) rfl w12.heap.size 0 rfl (ofK .u8 y3) _ H16.out.2.2.2.2.2.2.1 Try.underlying23 rfl HUI.out ?_); focus rfl)
    | ((with_reducible refine wpList_build_zer ?_ rfl ?_); focus rfl))
                    have C1 := Lib.hid (fun q => lwalk_any x c a b (grew w16 q) HXD.out (by omega) (by omega) (by omega) (by omega) (by omega))
                    rw [HE.out.2.2] at C1
                    have g32 := fun q => cell_grew H16.out.2.1 q; have g33 := fun q => cell_grew H16.out.2.2.1 q; have g34 := fun q => cell_grew H16.out.2.2.2.1 q
                    clear ce1632 ce1633 ce1634
                    refine wp_region_grew (by kernel_rfl) (by kernel_rfl) ?_
                    repeat (first | go_big_quiet_skip | (go_big_quiet_want; (first | (refine quiet_load_mid 23 (.tmp 9) rfl w12.heap.size 0 rfl (ofK .u8 y3) _ (fun w' hw' => rangeAt_grew H16.out.2.2.2.2.2.2.1 w' hw') Try.underlying23 rfl HUI.out ?_; go_simp; go_big_quiet_on) | (refine quiet_load_mid 23 (.tmp 133) rfl wr.heap.size 0 rfl (ofK .u8 x) _ (fun w' hw' => rangeAt_grew H16.out.1 w' hw') Try.underlying23 rfl HXI.out ?_; go_simp; go_big_quiet_on) | (go_big_quiet_op; (first | go_big_quiet_on | (apply Exists.intro; refine ⟨fun _ => ?_, ?_⟩; (focus (first | (go_at_call 56; exact calls_grew (C1.out _)))); go_big_quiet_on))))))
                    refine wpQuiet_nil ?_
                    intro w17 hw17
                    obtain ⟨q, rfl⟩ := hw17
                    have H17 := Lib.hid (show (grew w16 q).rangeAt wr.heap.size 0 (ofK .u8 x) ∧ (grew w16 q).cell? ⟨wr.heap.size, 32, none⟩ = some (.int .i64 c) ∧ (grew w16 q).cell? ⟨wr.heap.size, 33, none⟩ = some (.int .i64 a) ∧ (grew w16 q).cell? ⟨wr.heap.size, 34, none⟩ = some (.int .i64 b) ∧ (grew w16 q).rangeAt w6.heap.size 0 (ofK .u8 y1) ∧ (grew w16 q).rangeAt w9.heap.size 0 (ofK .u8 y2) ∧ (grew w16 q).rangeAt w12.heap.size 0 (ofK .u8 y3) ∧ Below w.heap.size w (grew w16 q) from ⟨rangeW_below H16.out.1 (below_grew w16 q), ((below_grew w16 q).cell (p := ⟨wr.heap.size, 32, none⟩) (block_of_cell H16.out.2.1)).trans H16.out.2.1, ((below_grew w16 q).cell (p := ⟨wr.heap.size, 33, none⟩) (block_of_cell H16.out.2.2.1)).trans H16.out.2.2.1, ((below_grew w16 q).cell (p := ⟨wr.heap.size, 34, none⟩) (block_of_cell H16.out.2.2.2.1)).trans H16.out.2.2.2.1, rangeW_below H16.out.2.2.2.2.1 (below_grew w16 q), rangeW_below H16.out.2.2.2.2.2.1 (below_grew w16 q), rangeW_below H16.out.2.2.2.2.2.2.1 (below_grew w16 q), below_thn H16.out.2.2.2.2.2.2.2 (below_grew w16 q) (Nat.le_refl _)⟩)
                    clear C1 g32 g33 g34
                    generalize grew w16 q = w17 at H17 ⊢
                    have ce1732 := H17.out.2.1; have ce1733 := H17.out.2.2.1; have ce1734 := H17.out.2.2.2.1
                    go_wp2_with (first
    | ((with_reducible refine wpList_load_want ?_ 23 (.tmp 5) rfl w6.heap.size 0 rfl (ofK .u8 y1) _ H17.out.2.2.2.2.1 Try.underlying23 rfl HPI.out ?_); focus rfl)
    | ((with_reducible refine wpList_load_want ?_ 23 (.tmp 7) rfl w9.heap.size 0 rfl (ofK .u8 y2) _ H17.out.2.2.2.2.2.1 Try.underlying23 rfl HTI.out ?_); focus rfl)
    | ((with_reducible refine wpList_load_want ?_ 23 (.tmp 9) rfl w12.heap.size 0 rfl (ofK .u8 y3) _ H17.out.2.2.2.2.2.2.1 Try.underlying23 rfl HUI.out ?_); focus rfl)
    | ((with_reducible refine wpList_build_zer ?_ rfl ?_); focus rfl))
                    go_roundw
                    case rel => exact ⟨k + 1, by omega, by omega, by go_num, Lib.hid H17.out.2.2.2.2.2.2.2⟩
                    case measure => simp [intOf]; omega
                  · skip
                    obtain ⟨hy1, rfl⟩ := HS1.out.1 (by omega)
                    obtain ⟨hy2, rfl⟩ := HS2.out.1 (by omega)
                    obtain ⟨hy3, rfl⟩ := HS3.out.2.1 (by unfold ChOk; omega)
                    have HE := Lib.hid (And.intro hy1 (And.intro hy2 hy3))
                    clear hy1 hy2 hy3
                    have he := fun w => eq_ids w y1 y1 true HPD.out HPD.out (decide_eq_true rfl)
                    have he2 := fun w => eq_ids w y2 y2 true HTD.out HTD.out (decide_eq_true rfl)
                    have he3 := fun w => eq_ids w y3 zer32 true HUD.out isD_zer (decide_eq_true HE.out.2.2)
                    go_wp2_with (first
    | ((with_reducible refine wpList_alloc_blk w12 rfl 23 rfl (ofK .u8 zer32) Try.zeroId ?_); intro w13 hb hbel hsz; have HAH14 := Lib.hid (And.intro hb hbel); clear hb hbel hsz)
    | ((with_reducible refine wpList_store_blk w13 rfl 23 (.tmp 9) (.tmp 51) rfl w12.heap.size 23 (ofK .u8 zer32) (ofK .u8 y3) HAH14.out.1 rfl rfl HUL.out HUI.out (one_ofK _ _) ?_); intro w14 hb hc hs; have HBH14 := Lib.hid (show w14.rangeAt w12.heap.size 0 (ofK .u8 y3) ∧ Below w12.heap.size w12 w14 from ⟨rangeW_blk hb, below_ch HAH14.out.2 hc (Nat.le_refl _) (fun j hj => by have : j = w12.heap.size := hj; omega)⟩); have H14 := Lib.hid (show w14.rangeAt wr.heap.size 0 (ofK .u8 x) ∧ w14.cell? ⟨wr.heap.size, 32, none⟩ = some (.int .i64 c) ∧ w14.cell? ⟨wr.heap.size, 33, none⟩ = some (.int .i64 a) ∧ w14.cell? ⟨wr.heap.size, 34, none⟩ = some (.int .i64 b) ∧ w14.rangeAt w6.heap.size 0 (ofK .u8 y1) ∧ w14.rangeAt w9.heap.size 0 (ofK .u8 y2) ∧ w14.rangeAt w12.heap.size 0 (ofK .u8 y3) ∧ Below w.heap.size w w14 from ⟨rangeW_below H12.out.1 HBH14.out.2, (HBH14.out.2.cell (p := ⟨wr.heap.size, 32, none⟩) (block_of_cell H12.out.2.1)).trans H12.out.2.1, (HBH14.out.2.cell (p := ⟨wr.heap.size, 33, none⟩) (block_of_cell H12.out.2.2.1)).trans H12.out.2.2.1, (HBH14.out.2.cell (p := ⟨wr.heap.size, 34, none⟩) (block_of_cell H12.out.2.2.2.1)).trans H12.out.2.2.2.1, rangeW_below H12.out.2.2.2.2.1 HBH14.out.2, rangeW_below H12.out.2.2.2.2.2.1 HBH14.out.2, HBH14.out.1, below_thn H12.out.2.2.2.2.2.2 HBH14.out.2 (Nat.le_refl _)⟩); have cd32 := H14.out.2.1; have cd33 := H14.out.2.2.1; have cd34 := H14.out.2.2.2.1; clear hb hc hs)
    | ((with_reducible refine wpList_load_want ?_ 23 (.tmp 5) rfl w6.heap.size 0 rfl (ofK .u8 y1) _ H14.out.2.2.2.2.1 Try.underlying23 rfl HPI.out ?_); focus rfl)
    | ((with_reducible refine wpList_load_want ?_ 23 (.tmp 7) rfl w9.heap.size 0 rfl (ofK .u8 y2) _ H14.out.2.2.2.2.2.1 Try.underlying23 rfl HTI.out ?_); focus rfl)
    | ((with_reducible refine wpList_load_want ?_ 23 (.tmp 9) rfl w12.heap.size 0 rfl (ofK .u8 y3) _ H14.out.2.2.2.2.2.2.1 Try.underlying23 rfl HUI.out ?_); focus rfl)
    | ((with_reducible refine wpList_build_zer ?_ rfl ?_); focus rfl))
                    have C1 := Lib.hid (fun q => lstart_any x c (grew w14 q) HXD.out (by omega) (by omega))
                    rw [HE.out.1] at C1
                    have g32 := fun q => cell_grew H14.out.2.1 q; have g33 := fun q => cell_grew H14.out.2.2.1 q; have g34 := fun q => cell_grew H14.out.2.2.2.1 q
                    clear cd32 cd33 cd34
                    refine wp_region_grew (by kernel_rfl) (by kernel_rfl) ?_
                    repeat (first | go_big_quiet_skip | (go_big_quiet_want; (first | (refine quiet_load_mid 23 (.tmp 5) rfl w6.heap.size 0 rfl (ofK .u8 y1) _ (fun w' hw' => rangeAt_grew H14.out.2.2.2.2.1 w' hw') Try.underlying23 rfl HPI.out ?_; go_simp; go_big_quiet_on) | (refine quiet_load_mid 23 (.tmp 66) rfl wr.heap.size 0 rfl (ofK .u8 x) _ (fun w' hw' => rangeAt_grew H14.out.1 w' hw') Try.underlying23 rfl HXI.out ?_; go_simp; go_big_quiet_on) | (go_big_quiet_op; (first | go_big_quiet_on | (apply Exists.intro; refine ⟨fun _ => ?_, ?_⟩; (focus (first | (go_at_call 54; exact calls_grew (C1.out _)))); go_big_quiet_on))))))
                    refine wpQuiet_nil ?_
                    intro w15 hw15
                    obtain ⟨q, rfl⟩ := hw15
                    have H15 := Lib.hid (show (grew w14 q).rangeAt wr.heap.size 0 (ofK .u8 x) ∧ (grew w14 q).cell? ⟨wr.heap.size, 32, none⟩ = some (.int .i64 c) ∧ (grew w14 q).cell? ⟨wr.heap.size, 33, none⟩ = some (.int .i64 a) ∧ (grew w14 q).cell? ⟨wr.heap.size, 34, none⟩ = some (.int .i64 b) ∧ (grew w14 q).rangeAt w6.heap.size 0 (ofK .u8 y1) ∧ (grew w14 q).rangeAt w9.heap.size 0 (ofK .u8 y2) ∧ (grew w14 q).rangeAt w12.heap.size 0 (ofK .u8 y3) ∧ Below w.heap.size w (grew w14 q) from ⟨rangeW_below H14.out.1 (below_grew w14 q), ((below_grew w14 q).cell (p := ⟨wr.heap.size, 32, none⟩) (block_of_cell H14.out.2.1)).trans H14.out.2.1, ((below_grew w14 q).cell (p := ⟨wr.heap.size, 33, none⟩) (block_of_cell H14.out.2.2.1)).trans H14.out.2.2.1, ((below_grew w14 q).cell (p := ⟨wr.heap.size, 34, none⟩) (block_of_cell H14.out.2.2.2.1)).trans H14.out.2.2.2.1, rangeW_below H14.out.2.2.2.2.1 (below_grew w14 q), rangeW_below H14.out.2.2.2.2.2.1 (below_grew w14 q), rangeW_below H14.out.2.2.2.2.2.2.1 (below_grew w14 q), below_thn H14.out.2.2.2.2.2.2.2 (below_grew w14 q) (Nat.le_refl _)⟩)
                    clear C1 g32 g33 g34
                    generalize grew w14 q = w15 at H15 ⊢
                    have ce1532 := H15.out.2.1; have ce1533 := H15.out.2.2.1; have ce1534 := H15.out.2.2.2.1
                    go_wp2_with (first
    | ((with_reducible refine wpList_load_want ?_ 23 (.tmp 5) rfl w6.heap.size 0 rfl (ofK .u8 y1) _ H15.out.2.2.2.2.1 Try.underlying23 rfl HPI.out ?_); focus rfl)
    | ((with_reducible refine wpList_load_want ?_ 23 (.tmp 7) rfl w9.heap.size 0 rfl (ofK .u8 y2) _ H15.out.2.2.2.2.2.1 Try.underlying23 rfl HTI.out ?_); focus rfl)
    | ((with_reducible refine wpList_load_want ?_ 23 (.tmp 9) rfl w12.heap.size 0 rfl (ofK .u8 y3) _ H15.out.2.2.2.2.2.2.1 Try.underlying23 rfl HUI.out ?_); focus rfl)
    | ((with_reducible refine wpList_build_zer ?_ rfl ?_); focus rfl))
                    have C1 := Lib.hid (fun q => lstep_any x c a (grew w15 q) HXD.out (by omega) (by omega) (by omega) (by omega))
                    rw [HE.out.2.1] at C1
                    have g32 := fun q => cell_grew H15.out.2.1 q; have g33 := fun q => cell_grew H15.out.2.2.1 q; have g34 := fun q => cell_grew H15.out.2.2.2.1 q
                    clear ce1532 ce1533 ce1534
                    refine wp_region_grew (by kernel_rfl) (by kernel_rfl) ?_
                    repeat (first | go_big_quiet_skip | (go_big_quiet_want; (first | (refine quiet_load_mid 23 (.tmp 7) rfl w9.heap.size 0 rfl (ofK .u8 y2) _ (fun w' hw' => rangeAt_grew H15.out.2.2.2.2.2.1 w' hw') Try.underlying23 rfl HTI.out ?_; go_simp; go_big_quiet_on) | (refine quiet_load_mid 23 (.tmp 95) rfl wr.heap.size 0 rfl (ofK .u8 x) _ (fun w' hw' => rangeAt_grew H15.out.1 w' hw') Try.underlying23 rfl HXI.out ?_; go_simp; go_big_quiet_on) | (go_big_quiet_op; (first | go_big_quiet_on | (apply Exists.intro; refine ⟨fun _ => ?_, ?_⟩; (focus (first | (go_at_call 55; exact calls_grew (C1.out _)))); go_big_quiet_on))))))
                    refine wpQuiet_nil ?_
                    intro w16 hw16
                    obtain ⟨q, rfl⟩ := hw16
                    have H16 := Lib.hid (show (grew w15 q).rangeAt wr.heap.size 0 (ofK .u8 x) ∧ (grew w15 q).cell? ⟨wr.heap.size, 32, none⟩ = some (.int .i64 c) ∧ (grew w15 q).cell? ⟨wr.heap.size, 33, none⟩ = some (.int .i64 a) ∧ (grew w15 q).cell? ⟨wr.heap.size, 34, none⟩ = some (.int .i64 b) ∧ (grew w15 q).rangeAt w6.heap.size 0 (ofK .u8 y1) ∧ (grew w15 q).rangeAt w9.heap.size 0 (ofK .u8 y2) ∧ (grew w15 q).rangeAt w12.heap.size 0 (ofK .u8 y3) ∧ Below w.heap.size w (grew w15 q) from ⟨rangeW_below H15.out.1 (below_grew w15 q), ((below_grew w15 q).cell (p := ⟨wr.heap.size, 32, none⟩) (block_of_cell H15.out.2.1)).trans H15.out.2.1, ((below_grew w15 q).cell (p := ⟨wr.heap.size, 33, none⟩) (block_of_cell H15.out.2.2.1)).trans H15.out.2.2.1, ((below_grew w15 q).cell (p := ⟨wr.heap.size, 34, none⟩) (block_of_cell H15.out.2.2.2.1)).trans H15.out.2.2.2.1, rangeW_below H15.out.2.2.2.2.1 (below_grew w15 q), rangeW_below H15.out.2.2.2.2.2.1 (below_grew w15 q), rangeW_below H15.out.2.2.2.2.2.2.1 (below_grew w15 q), below_thn H15.out.2.2.2.2.2.2.2 (below_grew w15 q) (Nat.le_refl _)⟩)
                    clear C1 g32 g33 g34
                    generalize grew w15 q = w16 at H16 ⊢
                    have ce1632 := H16.out.2.1; have ce1633 := H16.out.2.2.1; have ce1634 := H16.out.2.2.2.1
                    go_wp2_with (first
    | ((with_reducible refine wpList_load_want ?_ 23 (.tmp 5) rfl w6.heap.size 0 rfl (ofK .u8 y1) _ H16.out.2.2.2.2.1 Try.underlying23 rfl HPI.out ?_); focus rfl)
    | ((with_reducible refine wpList_load_want ?_ 23 (.tmp 7) rfl w9.heap.size 0 rfl (ofK .u8 y2) _ H16.out.2.2.2.2.2.1 Try.underlying23 rfl HTI.out ?_); focus rfl)
    | ((with_reducible refine wpList_load_want ?_ 23 (.tmp 9) rfl w12.heap.size 0 rfl (ofK .u8 y3) _ H16.out.2.2.2.2.2.2.1 Try.underlying23 rfl HUI.out ?_); focus rfl)
    | ((with_reducible refine wpList_build_zer ?_ rfl ?_); focus rfl))
                    go_roundw
                    case rel => exact ⟨k + 1, by omega, by omega, by go_num, Lib.hid H16.out.2.2.2.2.2.2.2⟩
                    case measure => simp [intOf]; omega
                · skip
                  obtain ⟨hy1, rfl⟩ := HS1.out.1 (by omega)
                  obtain ⟨hy2, rfl⟩ := HS2.out.1 (by omega)
                  obtain ⟨hy3, rfl⟩ := HS3.out.2.1 (by unfold ChOk; omega)
                  have HE := Lib.hid (And.intro hy1 (And.intro hy2 hy3))
                  clear hy1 hy2 hy3
                  have he := fun w => eq_ids w y1 y1 true HPD.out HPD.out (decide_eq_true rfl)
                  have he2 := fun w => eq_ids w y2 y2 true HTD.out HTD.out (decide_eq_true rfl)
                  have he3 := fun w => eq_ids w y3 zer32 true HUD.out isD_zer (decide_eq_true HE.out.2.2)
                  go_wp2_with (first
    | ((with_reducible refine wpList_alloc_blk w12 rfl 23 rfl (ofK .u8 zer32) Try.zeroId ?_); intro w13 hb hbel hsz; have HAH14 := Lib.hid (And.intro hb hbel); clear hb hbel hsz)
    | ((with_reducible refine wpList_store_blk w13 rfl 23 (.tmp 9) (.tmp 51) rfl w12.heap.size 23 (ofK .u8 zer32) (ofK .u8 y3) HAH14.out.1 rfl rfl HUL.out HUI.out (one_ofK _ _) ?_); intro w14 hb hc hs; have HBH14 := Lib.hid (show w14.rangeAt w12.heap.size 0 (ofK .u8 y3) ∧ Below w12.heap.size w12 w14 from ⟨rangeW_blk hb, below_ch HAH14.out.2 hc (Nat.le_refl _) (fun j hj => by have : j = w12.heap.size := hj; omega)⟩); have H14 := Lib.hid (show w14.rangeAt wr.heap.size 0 (ofK .u8 x) ∧ w14.cell? ⟨wr.heap.size, 32, none⟩ = some (.int .i64 c) ∧ w14.cell? ⟨wr.heap.size, 33, none⟩ = some (.int .i64 a) ∧ w14.cell? ⟨wr.heap.size, 34, none⟩ = some (.int .i64 b) ∧ w14.rangeAt w6.heap.size 0 (ofK .u8 y1) ∧ w14.rangeAt w9.heap.size 0 (ofK .u8 y2) ∧ w14.rangeAt w12.heap.size 0 (ofK .u8 y3) ∧ Below w.heap.size w w14 from ⟨rangeW_below H12.out.1 HBH14.out.2, (HBH14.out.2.cell (p := ⟨wr.heap.size, 32, none⟩) (block_of_cell H12.out.2.1)).trans H12.out.2.1, (HBH14.out.2.cell (p := ⟨wr.heap.size, 33, none⟩) (block_of_cell H12.out.2.2.1)).trans H12.out.2.2.1, (HBH14.out.2.cell (p := ⟨wr.heap.size, 34, none⟩) (block_of_cell H12.out.2.2.2.1)).trans H12.out.2.2.2.1, rangeW_below H12.out.2.2.2.2.1 HBH14.out.2, rangeW_below H12.out.2.2.2.2.2.1 HBH14.out.2, HBH14.out.1, below_thn H12.out.2.2.2.2.2.2 HBH14.out.2 (Nat.le_refl _)⟩); have cd32 := H14.out.2.1; have cd33 := H14.out.2.2.1; have cd34 := H14.out.2.2.2.1; clear hb hc hs)
    | ((with_reducible refine wpList_load_want ?_ 23 (.tmp 5) rfl w6.heap.size 0 rfl (ofK .u8 y1) _ H14.out.2.2.2.2.1 Try.underlying23 rfl HPI.out ?_); focus rfl)
    | ((with_reducible refine wpList_load_want ?_ 23 (.tmp 7) rfl w9.heap.size 0 rfl (ofK .u8 y2) _ H14.out.2.2.2.2.2.1 Try.underlying23 rfl HTI.out ?_); focus rfl)
    | ((with_reducible refine wpList_load_want ?_ 23 (.tmp 9) rfl w12.heap.size 0 rfl (ofK .u8 y3) _ H14.out.2.2.2.2.2.2.1 Try.underlying23 rfl HUI.out ?_); focus rfl)
    | ((with_reducible refine wpList_build_zer ?_ rfl ?_); focus rfl))
                  have C1 := Lib.hid (fun q => lstart_any x c (grew w14 q) HXD.out (by omega) (by omega))
                  rw [HE.out.1] at C1
                  have g32 := fun q => cell_grew H14.out.2.1 q; have g33 := fun q => cell_grew H14.out.2.2.1 q; have g34 := fun q => cell_grew H14.out.2.2.2.1 q
                  clear cd32 cd33 cd34
                  refine wp_region_grew (by kernel_rfl) (by kernel_rfl) ?_
                  repeat (first | go_big_quiet_skip | (go_big_quiet_want; (first | (refine quiet_load_mid 23 (.tmp 5) rfl w6.heap.size 0 rfl (ofK .u8 y1) _ (fun w' hw' => rangeAt_grew H14.out.2.2.2.2.1 w' hw') Try.underlying23 rfl HPI.out ?_; go_simp; go_big_quiet_on) | (refine quiet_load_mid 23 (.tmp 66) rfl wr.heap.size 0 rfl (ofK .u8 x) _ (fun w' hw' => rangeAt_grew H14.out.1 w' hw') Try.underlying23 rfl HXI.out ?_; go_simp; go_big_quiet_on) | (go_big_quiet_op; (first | go_big_quiet_on | (apply Exists.intro; refine ⟨fun _ => ?_, ?_⟩; (focus (first | (go_at_call 54; exact calls_grew (C1.out _)))); go_big_quiet_on))))))
                  refine wpQuiet_nil ?_
                  intro w15 hw15
                  obtain ⟨q, rfl⟩ := hw15
                  have H15 := Lib.hid (show (grew w14 q).rangeAt wr.heap.size 0 (ofK .u8 x) ∧ (grew w14 q).cell? ⟨wr.heap.size, 32, none⟩ = some (.int .i64 c) ∧ (grew w14 q).cell? ⟨wr.heap.size, 33, none⟩ = some (.int .i64 a) ∧ (grew w14 q).cell? ⟨wr.heap.size, 34, none⟩ = some (.int .i64 b) ∧ (grew w14 q).rangeAt w6.heap.size 0 (ofK .u8 y1) ∧ (grew w14 q).rangeAt w9.heap.size 0 (ofK .u8 y2) ∧ (grew w14 q).rangeAt w12.heap.size 0 (ofK .u8 y3) ∧ Below w.heap.size w (grew w14 q) from ⟨rangeW_below H14.out.1 (below_grew w14 q), ((below_grew w14 q).cell (p := ⟨wr.heap.size, 32, none⟩) (block_of_cell H14.out.2.1)).trans H14.out.2.1, ((below_grew w14 q).cell (p := ⟨wr.heap.size, 33, none⟩) (block_of_cell H14.out.2.2.1)).trans H14.out.2.2.1, ((below_grew w14 q).cell (p := ⟨wr.heap.size, 34, none⟩) (block_of_cell H14.out.2.2.2.1)).trans H14.out.2.2.2.1, rangeW_below H14.out.2.2.2.2.1 (below_grew w14 q), rangeW_below H14.out.2.2.2.2.2.1 (below_grew w14 q), rangeW_below H14.out.2.2.2.2.2.2.1 (below_grew w14 q), below_thn H14.out.2.2.2.2.2.2.2 (below_grew w14 q) (Nat.le_refl _)⟩)
                  clear C1 g32 g33 g34
                  generalize grew w14 q = w15 at H15 ⊢
                  have ce1532 := H15.out.2.1; have ce1533 := H15.out.2.2.1; have ce1534 := H15.out.2.2.2.1
                  go_wp2_with (first
    | ((with_reducible refine wpList_load_want ?_ 23 (.tmp 5) rfl w6.heap.size 0 rfl (ofK .u8 y1) _ H15.out.2.2.2.2.1 Try.underlying23 rfl HPI.out ?_); focus rfl)
    | ((with_reducible refine wpList_load_want ?_ 23 (.tmp 7) rfl w9.heap.size 0 rfl (ofK .u8 y2) _ H15.out.2.2.2.2.2.1 Try.underlying23 rfl HTI.out ?_); focus rfl)
    | ((with_reducible refine wpList_load_want ?_ 23 (.tmp 9) rfl w12.heap.size 0 rfl (ofK .u8 y3) _ H15.out.2.2.2.2.2.2.1 Try.underlying23 rfl HUI.out ?_); focus rfl)
    | ((with_reducible refine wpList_build_zer ?_ rfl ?_); focus rfl))
                  have C1 := Lib.hid (fun q => lstep_any x c a (grew w15 q) HXD.out (by omega) (by omega) (by omega) (by omega))
                  rw [HE.out.2.1] at C1
                  have g32 := fun q => cell_grew H15.out.2.1 q; have g33 := fun q => cell_grew H15.out.2.2.1 q; have g34 := fun q => cell_grew H15.out.2.2.2.1 q
                  clear ce1532 ce1533 ce1534
                  refine wp_region_grew (by kernel_rfl) (by kernel_rfl) ?_
                  repeat (first | go_big_quiet_skip | (go_big_quiet_want; (first | (refine quiet_load_mid 23 (.tmp 7) rfl w9.heap.size 0 rfl (ofK .u8 y2) _ (fun w' hw' => rangeAt_grew H15.out.2.2.2.2.2.1 w' hw') Try.underlying23 rfl HTI.out ?_; go_simp; go_big_quiet_on) | (refine quiet_load_mid 23 (.tmp 95) rfl wr.heap.size 0 rfl (ofK .u8 x) _ (fun w' hw' => rangeAt_grew H15.out.1 w' hw') Try.underlying23 rfl HXI.out ?_; go_simp; go_big_quiet_on) | (go_big_quiet_op; (first | go_big_quiet_on | (apply Exists.intro; refine ⟨fun _ => ?_, ?_⟩; (focus (first | (go_at_call 55; exact calls_grew (C1.out _)))); go_big_quiet_on))))))
                  refine wpQuiet_nil ?_
                  intro w16 hw16
                  obtain ⟨q, rfl⟩ := hw16
                  have H16 := Lib.hid (show (grew w15 q).rangeAt wr.heap.size 0 (ofK .u8 x) ∧ (grew w15 q).cell? ⟨wr.heap.size, 32, none⟩ = some (.int .i64 c) ∧ (grew w15 q).cell? ⟨wr.heap.size, 33, none⟩ = some (.int .i64 a) ∧ (grew w15 q).cell? ⟨wr.heap.size, 34, none⟩ = some (.int .i64 b) ∧ (grew w15 q).rangeAt w6.heap.size 0 (ofK .u8 y1) ∧ (grew w15 q).rangeAt w9.heap.size 0 (ofK .u8 y2) ∧ (grew w15 q).rangeAt w12.heap.size 0 (ofK .u8 y3) ∧ Below w.heap.size w (grew w15 q) from ⟨rangeW_below H15.out.1 (below_grew w15 q), ((below_grew w15 q).cell (p := ⟨wr.heap.size, 32, none⟩) (block_of_cell H15.out.2.1)).trans H15.out.2.1, ((below_grew w15 q).cell (p := ⟨wr.heap.size, 33, none⟩) (block_of_cell H15.out.2.2.1)).trans H15.out.2.2.1, ((below_grew w15 q).cell (p := ⟨wr.heap.size, 34, none⟩) (block_of_cell H15.out.2.2.2.1)).trans H15.out.2.2.2.1, rangeW_below H15.out.2.2.2.2.1 (below_grew w15 q), rangeW_below H15.out.2.2.2.2.2.1 (below_grew w15 q), rangeW_below H15.out.2.2.2.2.2.2.1 (below_grew w15 q), below_thn H15.out.2.2.2.2.2.2.2 (below_grew w15 q) (Nat.le_refl _)⟩)
                  clear C1 g32 g33 g34
                  generalize grew w15 q = w16 at H16 ⊢
                  have ce1632 := H16.out.2.1; have ce1633 := H16.out.2.2.1; have ce1634 := H16.out.2.2.2.1
                  go_wp2_with (first
    | ((with_reducible refine wpList_load_want ?_ 23 (.tmp 5) rfl w6.heap.size 0 rfl (ofK .u8 y1) _ H16.out.2.2.2.2.1 Try.underlying23 rfl HPI.out ?_); focus rfl)
    | ((with_reducible refine wpList_load_want ?_ 23 (.tmp 7) rfl w9.heap.size 0 rfl (ofK .u8 y2) _ H16.out.2.2.2.2.2.1 Try.underlying23 rfl HTI.out ?_); focus rfl)
    | ((with_reducible refine wpList_load_want ?_ 23 (.tmp 9) rfl w12.heap.size 0 rfl (ofK .u8 y3) _ H16.out.2.2.2.2.2.2.1 Try.underlying23 rfl HUI.out ?_); focus rfl)
    | ((with_reducible refine wpList_build_zer ?_ rfl ?_); focus rfl))
                  go_roundw
                  case rel => exact ⟨k + 1, by omega, by omega, by go_num, Lib.hid H16.out.2.2.2.2.2.2.2⟩
                  case measure => simp [intOf]; omega
              · by_cases k1 : a ≤ b
                · by_cases k2 : b ≤ 15
                  · skip
                    obtain ⟨hy1, rfl⟩ := HS1.out.1 (by omega)
                    obtain ⟨hy2, rfl⟩ := HS2.out.2.1 (by omega)
                    obtain ⟨hy3, rfl⟩ := HS3.out.1 (by unfold ChOk; omega)
                    have HE := Lib.hid (And.intro hy1 (And.intro hy2 hy3))
                    clear hy1 hy2 hy3
                    have he := fun w => eq_ids w y1 y1 true HPD.out HPD.out (decide_eq_true rfl)
                    have he2 := fun w => eq_ids w y2 zer32 true HTD.out isD_zer (decide_eq_true HE.out.2.1)
                    have he3 := fun w => eq_ids w y3 y3 true HUD.out HUD.out (decide_eq_true rfl)
                    go_wp2_with (first
    | ((with_reducible refine wpList_alloc_blk w12 rfl 23 rfl (ofK .u8 zer32) Try.zeroId ?_); intro w13 hb hbel hsz; have HAH14 := Lib.hid (And.intro hb hbel); clear hb hbel hsz)
    | ((with_reducible refine wpList_store_blk w13 rfl 23 (.tmp 9) (.tmp 51) rfl w12.heap.size 23 (ofK .u8 zer32) (ofK .u8 y3) HAH14.out.1 rfl rfl HUL.out HUI.out (one_ofK _ _) ?_); intro w14 hb hc hs; have HBH14 := Lib.hid (show w14.rangeAt w12.heap.size 0 (ofK .u8 y3) ∧ Below w12.heap.size w12 w14 from ⟨rangeW_blk hb, below_ch HAH14.out.2 hc (Nat.le_refl _) (fun j hj => by have : j = w12.heap.size := hj; omega)⟩); have H14 := Lib.hid (show w14.rangeAt wr.heap.size 0 (ofK .u8 x) ∧ w14.cell? ⟨wr.heap.size, 32, none⟩ = some (.int .i64 c) ∧ w14.cell? ⟨wr.heap.size, 33, none⟩ = some (.int .i64 a) ∧ w14.cell? ⟨wr.heap.size, 34, none⟩ = some (.int .i64 b) ∧ w14.rangeAt w6.heap.size 0 (ofK .u8 y1) ∧ w14.rangeAt w9.heap.size 0 (ofK .u8 y2) ∧ w14.rangeAt w12.heap.size 0 (ofK .u8 y3) ∧ Below w.heap.size w w14 from ⟨rangeW_below H12.out.1 HBH14.out.2, (HBH14.out.2.cell (p := ⟨wr.heap.size, 32, none⟩) (block_of_cell H12.out.2.1)).trans H12.out.2.1, (HBH14.out.2.cell (p := ⟨wr.heap.size, 33, none⟩) (block_of_cell H12.out.2.2.1)).trans H12.out.2.2.1, (HBH14.out.2.cell (p := ⟨wr.heap.size, 34, none⟩) (block_of_cell H12.out.2.2.2.1)).trans H12.out.2.2.2.1, rangeW_below H12.out.2.2.2.2.1 HBH14.out.2, rangeW_below H12.out.2.2.2.2.2.1 HBH14.out.2, HBH14.out.1, below_thn H12.out.2.2.2.2.2.2 HBH14.out.2 (Nat.le_refl _)⟩); have cd32 := H14.out.2.1; have cd33 := H14.out.2.2.1; have cd34 := H14.out.2.2.2.1; clear hb hc hs)
    | ((with_reducible refine wpList_load_want ?_ 23 (.tmp 5) rfl w6.heap.size 0 rfl (ofK .u8 y1) _ H14.out.2.2.2.2.1 Try.underlying23 rfl HPI.out ?_); focus rfl)
    | ((with_reducible refine wpList_load_want ?_ 23 (.tmp 7) rfl w9.heap.size 0 rfl (ofK .u8 y2) _ H14.out.2.2.2.2.2.1 Try.underlying23 rfl HTI.out ?_); focus rfl)
    | ((with_reducible refine wpList_load_want ?_ 23 (.tmp 9) rfl w12.heap.size 0 rfl (ofK .u8 y3) _ H14.out.2.2.2.2.2.2.1 Try.underlying23 rfl HUI.out ?_); focus rfl)
    | ((with_reducible refine wpList_build_zer ?_ rfl ?_); focus rfl))
                    have C1 := Lib.hid (fun q => lstart_any x c (grew w14 q) HXD.out (by omega) (by omega))
                    rw [HE.out.1] at C1
                    have g32 := fun q => cell_grew H14.out.2.1 q; have g33 := fun q => cell_grew H14.out.2.2.1 q; have g34 := fun q => cell_grew H14.out.2.2.2.1 q
                    clear cd32 cd33 cd34
                    refine wp_region_grew (by kernel_rfl) (by kernel_rfl) ?_
                    repeat (first | go_big_quiet_skip | (go_big_quiet_want; (first | (refine quiet_load_mid 23 (.tmp 5) rfl w6.heap.size 0 rfl (ofK .u8 y1) _ (fun w' hw' => rangeAt_grew H14.out.2.2.2.2.1 w' hw') Try.underlying23 rfl HPI.out ?_; go_simp; go_big_quiet_on) | (refine quiet_load_mid 23 (.tmp 66) rfl wr.heap.size 0 rfl (ofK .u8 x) _ (fun w' hw' => rangeAt_grew H14.out.1 w' hw') Try.underlying23 rfl HXI.out ?_; go_simp; go_big_quiet_on) | (go_big_quiet_op; (first | go_big_quiet_on | (apply Exists.intro; refine ⟨fun _ => ?_, ?_⟩; (focus (first | (go_at_call 54; exact calls_grew (C1.out _)))); go_big_quiet_on))))))
                    refine wpQuiet_nil ?_
                    intro w15 hw15
                    obtain ⟨q, rfl⟩ := hw15
                    have H15 := Lib.hid (show (grew w14 q).rangeAt wr.heap.size 0 (ofK .u8 x) ∧ (grew w14 q).cell? ⟨wr.heap.size, 32, none⟩ = some (.int .i64 c) ∧ (grew w14 q).cell? ⟨wr.heap.size, 33, none⟩ = some (.int .i64 a) ∧ (grew w14 q).cell? ⟨wr.heap.size, 34, none⟩ = some (.int .i64 b) ∧ (grew w14 q).rangeAt w6.heap.size 0 (ofK .u8 y1) ∧ (grew w14 q).rangeAt w9.heap.size 0 (ofK .u8 y2) ∧ (grew w14 q).rangeAt w12.heap.size 0 (ofK .u8 y3) ∧ Below w.heap.size w (grew w14 q) from ⟨rangeW_below H14.out.1 (below_grew w14 q), ((below_grew w14 q).cell (p := ⟨wr.heap.size, 32, none⟩) (block_of_cell H14.out.2.1)).trans H14.out.2.1, ((below_grew w14 q).cell (p := ⟨wr.heap.size, 33, none⟩) (block_of_cell H14.out.2.2.1)).trans H14.out.2.2.1, ((below_grew w14 q).cell (p := ⟨wr.heap.size, 34, none⟩) (block_of_cell H14.out.2.2.2.1)).trans H14.out.2.2.2.1, rangeW_below H14.out.2.2.2.2.1 (below_grew w14 q), rangeW_below H14.out.2.2.2.2.2.1 (below_grew w14 q), rangeW_below H14.out.2.2.2.2.2.2.1 (below_grew w14 q), below_thn H14.out.2.2.2.2.2.2.2 (below_grew w14 q) (Nat.le_refl _)⟩)
                    clear C1 g32 g33 g34
                    generalize grew w14 q = w15 at H15 ⊢
                    have ce1532 := H15.out.2.1; have ce1533 := H15.out.2.2.1; have ce1534 := H15.out.2.2.2.1
                    go_wp2_with (first
    | ((with_reducible refine wpList_load_want ?_ 23 (.tmp 5) rfl w6.heap.size 0 rfl (ofK .u8 y1) _ H15.out.2.2.2.2.1 Try.underlying23 rfl HPI.out ?_); focus rfl)
    | ((with_reducible refine wpList_load_want ?_ 23 (.tmp 7) rfl w9.heap.size 0 rfl (ofK .u8 y2) _ H15.out.2.2.2.2.2.1 Try.underlying23 rfl HTI.out ?_); focus rfl)
    | ((with_reducible refine wpList_load_want ?_ 23 (.tmp 9) rfl w12.heap.size 0 rfl (ofK .u8 y3) _ H15.out.2.2.2.2.2.2.1 Try.underlying23 rfl HUI.out ?_); focus rfl)
    | ((with_reducible refine wpList_build_zer ?_ rfl ?_); focus rfl))
                    have C1 := Lib.hid (fun q => lwalk_any x c a b (grew w15 q) HXD.out (by omega) (by omega) (by omega) (by omega) (by omega))
                    rw [HE.out.2.2] at C1
                    have g32 := fun q => cell_grew H15.out.2.1 q; have g33 := fun q => cell_grew H15.out.2.2.1 q; have g34 := fun q => cell_grew H15.out.2.2.2.1 q
                    clear ce1532 ce1533 ce1534
                    refine wp_region_grew (by kernel_rfl) (by kernel_rfl) ?_
                    repeat (first | go_big_quiet_skip | (go_big_quiet_want; (first | (refine quiet_load_mid 23 (.tmp 9) rfl w12.heap.size 0 rfl (ofK .u8 y3) _ (fun w' hw' => rangeAt_grew H15.out.2.2.2.2.2.2.1 w' hw') Try.underlying23 rfl HUI.out ?_; go_simp; go_big_quiet_on) | (refine quiet_load_mid 23 (.tmp 133) rfl wr.heap.size 0 rfl (ofK .u8 x) _ (fun w' hw' => rangeAt_grew H15.out.1 w' hw') Try.underlying23 rfl HXI.out ?_; go_simp; go_big_quiet_on) | (go_big_quiet_op; (first | go_big_quiet_on | (apply Exists.intro; refine ⟨fun _ => ?_, ?_⟩; (focus (first | (go_at_call 56; exact calls_grew (C1.out _)))); go_big_quiet_on))))))
                    refine wpQuiet_nil ?_
                    intro w16 hw16
                    obtain ⟨q, rfl⟩ := hw16
                    have H16 := Lib.hid (show (grew w15 q).rangeAt wr.heap.size 0 (ofK .u8 x) ∧ (grew w15 q).cell? ⟨wr.heap.size, 32, none⟩ = some (.int .i64 c) ∧ (grew w15 q).cell? ⟨wr.heap.size, 33, none⟩ = some (.int .i64 a) ∧ (grew w15 q).cell? ⟨wr.heap.size, 34, none⟩ = some (.int .i64 b) ∧ (grew w15 q).rangeAt w6.heap.size 0 (ofK .u8 y1) ∧ (grew w15 q).rangeAt w9.heap.size 0 (ofK .u8 y2) ∧ (grew w15 q).rangeAt w12.heap.size 0 (ofK .u8 y3) ∧ Below w.heap.size w (grew w15 q) from ⟨rangeW_below H15.out.1 (below_grew w15 q), ((below_grew w15 q).cell (p := ⟨wr.heap.size, 32, none⟩) (block_of_cell H15.out.2.1)).trans H15.out.2.1, ((below_grew w15 q).cell (p := ⟨wr.heap.size, 33, none⟩) (block_of_cell H15.out.2.2.1)).trans H15.out.2.2.1, ((below_grew w15 q).cell (p := ⟨wr.heap.size, 34, none⟩) (block_of_cell H15.out.2.2.2.1)).trans H15.out.2.2.2.1, rangeW_below H15.out.2.2.2.2.1 (below_grew w15 q), rangeW_below H15.out.2.2.2.2.2.1 (below_grew w15 q), rangeW_below H15.out.2.2.2.2.2.2.1 (below_grew w15 q), below_thn H15.out.2.2.2.2.2.2.2 (below_grew w15 q) (Nat.le_refl _)⟩)
                    clear C1 g32 g33 g34
                    generalize grew w15 q = w16 at H16 ⊢
                    have ce1632 := H16.out.2.1; have ce1633 := H16.out.2.2.1; have ce1634 := H16.out.2.2.2.1
                    go_wp2_with (first
    | ((with_reducible refine wpList_load_want ?_ 23 (.tmp 5) rfl w6.heap.size 0 rfl (ofK .u8 y1) _ H16.out.2.2.2.2.1 Try.underlying23 rfl HPI.out ?_); focus rfl)
    | ((with_reducible refine wpList_load_want ?_ 23 (.tmp 7) rfl w9.heap.size 0 rfl (ofK .u8 y2) _ H16.out.2.2.2.2.2.1 Try.underlying23 rfl HTI.out ?_); focus rfl)
    | ((with_reducible refine wpList_load_want ?_ 23 (.tmp 9) rfl w12.heap.size 0 rfl (ofK .u8 y3) _ H16.out.2.2.2.2.2.2.1 Try.underlying23 rfl HUI.out ?_); focus rfl)
    | ((with_reducible refine wpList_build_zer ?_ rfl ?_); focus rfl))
                    go_roundw
                    case rel => exact ⟨k + 1, by omega, by omega, by go_num, Lib.hid H16.out.2.2.2.2.2.2.2⟩
                    case measure => simp [intOf]; omega
                  · skip
                    obtain ⟨hy1, rfl⟩ := HS1.out.1 (by omega)
                    obtain ⟨hy2, rfl⟩ := HS2.out.2.1 (by omega)
                    obtain ⟨hy3, rfl⟩ := HS3.out.2.1 (by unfold ChOk; omega)
                    have HE := Lib.hid (And.intro hy1 (And.intro hy2 hy3))
                    clear hy1 hy2 hy3
                    have he := fun w => eq_ids w y1 y1 true HPD.out HPD.out (decide_eq_true rfl)
                    have he2 := fun w => eq_ids w y2 zer32 true HTD.out isD_zer (decide_eq_true HE.out.2.1)
                    have he3 := fun w => eq_ids w y3 zer32 true HUD.out isD_zer (decide_eq_true HE.out.2.2)
                    go_wp2_with (first
    | ((with_reducible refine wpList_alloc_blk w12 rfl 23 rfl (ofK .u8 zer32) Try.zeroId ?_); intro w13 hb hbel hsz; have HAH14 := Lib.hid (And.intro hb hbel); clear hb hbel hsz)
    | ((with_reducible refine wpList_store_blk w13 rfl 23 (.tmp 9) (.tmp 51) rfl w12.heap.size 23 (ofK .u8 zer32) (ofK .u8 y3) HAH14.out.1 rfl rfl HUL.out HUI.out (one_ofK _ _) ?_); intro w14 hb hc hs; have HBH14 := Lib.hid (show w14.rangeAt w12.heap.size 0 (ofK .u8 y3) ∧ Below w12.heap.size w12 w14 from ⟨rangeW_blk hb, below_ch HAH14.out.2 hc (Nat.le_refl _) (fun j hj => by have : j = w12.heap.size := hj; omega)⟩); have H14 := Lib.hid (show w14.rangeAt wr.heap.size 0 (ofK .u8 x) ∧ w14.cell? ⟨wr.heap.size, 32, none⟩ = some (.int .i64 c) ∧ w14.cell? ⟨wr.heap.size, 33, none⟩ = some (.int .i64 a) ∧ w14.cell? ⟨wr.heap.size, 34, none⟩ = some (.int .i64 b) ∧ w14.rangeAt w6.heap.size 0 (ofK .u8 y1) ∧ w14.rangeAt w9.heap.size 0 (ofK .u8 y2) ∧ w14.rangeAt w12.heap.size 0 (ofK .u8 y3) ∧ Below w.heap.size w w14 from ⟨rangeW_below H12.out.1 HBH14.out.2, (HBH14.out.2.cell (p := ⟨wr.heap.size, 32, none⟩) (block_of_cell H12.out.2.1)).trans H12.out.2.1, (HBH14.out.2.cell (p := ⟨wr.heap.size, 33, none⟩) (block_of_cell H12.out.2.2.1)).trans H12.out.2.2.1, (HBH14.out.2.cell (p := ⟨wr.heap.size, 34, none⟩) (block_of_cell H12.out.2.2.2.1)).trans H12.out.2.2.2.1, rangeW_below H12.out.2.2.2.2.1 HBH14.out.2, rangeW_below H12.out.2.2.2.2.2.1 HBH14.out.2, HBH14.out.1, below_thn H12.out.2.2.2.2.2.2 HBH14.out.2 (Nat.le_refl _)⟩); have cd32 := H14.out.2.1; have cd33 := H14.out.2.2.1; have cd34 := H14.out.2.2.2.1; clear hb hc hs)
    | ((with_reducible refine wpList_load_want ?_ 23 (.tmp 5) rfl w6.heap.size 0 rfl (ofK .u8 y1) _ H14.out.2.2.2.2.1 Try.underlying23 rfl HPI.out ?_); focus rfl)
    | ((with_reducible refine wpList_load_want ?_ 23 (.tmp 7) rfl w9.heap.size 0 rfl (ofK .u8 y2) _ H14.out.2.2.2.2.2.1 Try.underlying23 rfl HTI.out ?_); focus rfl)
    | ((with_reducible refine wpList_load_want ?_ 23 (.tmp 9) rfl w12.heap.size 0 rfl (ofK .u8 y3) _ H14.out.2.2.2.2.2.2.1 Try.underlying23 rfl HUI.out ?_); focus rfl)
    | ((with_reducible refine wpList_build_zer ?_ rfl ?_); focus rfl))
                    have C1 := Lib.hid (fun q => lstart_any x c (grew w14 q) HXD.out (by omega) (by omega))
                    rw [HE.out.1] at C1
                    have g32 := fun q => cell_grew H14.out.2.1 q; have g33 := fun q => cell_grew H14.out.2.2.1 q; have g34 := fun q => cell_grew H14.out.2.2.2.1 q
                    clear cd32 cd33 cd34
                    refine wp_region_grew (by kernel_rfl) (by kernel_rfl) ?_
                    repeat (first | go_big_quiet_skip | (go_big_quiet_want; (first | (refine quiet_load_mid 23 (.tmp 5) rfl w6.heap.size 0 rfl (ofK .u8 y1) _ (fun w' hw' => rangeAt_grew H14.out.2.2.2.2.1 w' hw') Try.underlying23 rfl HPI.out ?_; go_simp; go_big_quiet_on) | (refine quiet_load_mid 23 (.tmp 66) rfl wr.heap.size 0 rfl (ofK .u8 x) _ (fun w' hw' => rangeAt_grew H14.out.1 w' hw') Try.underlying23 rfl HXI.out ?_; go_simp; go_big_quiet_on) | (go_big_quiet_op; (first | go_big_quiet_on | (apply Exists.intro; refine ⟨fun _ => ?_, ?_⟩; (focus (first | (go_at_call 54; exact calls_grew (C1.out _)))); go_big_quiet_on))))))
                    refine wpQuiet_nil ?_
                    intro w15 hw15
                    obtain ⟨q, rfl⟩ := hw15
                    have H15 := Lib.hid (show (grew w14 q).rangeAt wr.heap.size 0 (ofK .u8 x) ∧ (grew w14 q).cell? ⟨wr.heap.size, 32, none⟩ = some (.int .i64 c) ∧ (grew w14 q).cell? ⟨wr.heap.size, 33, none⟩ = some (.int .i64 a) ∧ (grew w14 q).cell? ⟨wr.heap.size, 34, none⟩ = some (.int .i64 b) ∧ (grew w14 q).rangeAt w6.heap.size 0 (ofK .u8 y1) ∧ (grew w14 q).rangeAt w9.heap.size 0 (ofK .u8 y2) ∧ (grew w14 q).rangeAt w12.heap.size 0 (ofK .u8 y3) ∧ Below w.heap.size w (grew w14 q) from ⟨rangeW_below H14.out.1 (below_grew w14 q), ((below_grew w14 q).cell (p := ⟨wr.heap.size, 32, none⟩) (block_of_cell H14.out.2.1)).trans H14.out.2.1, ((below_grew w14 q).cell (p := ⟨wr.heap.size, 33, none⟩) (block_of_cell H14.out.2.2.1)).trans H14.out.2.2.1, ((below_grew w14 q).cell (p := ⟨wr.heap.size, 34, none⟩) (block_of_cell H14.out.2.2.2.1)).trans H14.out.2.2.2.1, rangeW_below H14.out.2.2.2.2.1 (below_grew w14 q), rangeW_below H14.out.2.2.2.2.2.1 (below_grew w14 q), rangeW_below H14.out.2.2.2.2.2.2.1 (below_grew w14 q), below_thn H14.out.2.2.2.2.2.2.2 (below_grew w14 q) (Nat.le_refl _)⟩)
                    clear C1 g32 g33 g34
                    generalize grew w14 q = w15 at H15 ⊢
                    have ce1532 := H15.out.2.1; have ce1533 := H15.out.2.2.1; have ce1534 := H15.out.2.2.2.1
                    go_wp2_with (first
    | ((with_reducible refine wpList_load_want ?_ 23 (.tmp 5) rfl w6.heap.size 0 rfl (ofK .u8 y1) _ H15.out.2.2.2.2.1 Try.underlying23 rfl HPI.out ?_); focus rfl)
    | ((with_reducible refine wpList_load_want ?_ 23 (.tmp 7) rfl w9.heap.size 0 rfl (ofK .u8 y2) _ H15.out.2.2.2.2.2.1 Try.underlying23 rfl HTI.out ?_); focus rfl)
    | ((with_reducible refine wpList_load_want ?_ 23 (.tmp 9) rfl w12.heap.size 0 rfl (ofK .u8 y3) _ H15.out.2.2.2.2.2.2.1 Try.underlying23 rfl HUI.out ?_); focus rfl)
    | ((with_reducible refine wpList_build_zer ?_ rfl ?_); focus rfl))
                    go_roundw
                    case rel => exact ⟨k + 1, by omega, by omega, by go_num, Lib.hid H15.out.2.2.2.2.2.2.2⟩
                    case measure => simp [intOf]; omega
                · skip
                  obtain ⟨hy1, rfl⟩ := HS1.out.1 (by omega)
                  obtain ⟨hy2, rfl⟩ := HS2.out.2.1 (by omega)
                  obtain ⟨hy3, rfl⟩ := HS3.out.2.1 (by unfold ChOk; omega)
                  have HE := Lib.hid (And.intro hy1 (And.intro hy2 hy3))
                  clear hy1 hy2 hy3
                  have he := fun w => eq_ids w y1 y1 true HPD.out HPD.out (decide_eq_true rfl)
                  have he2 := fun w => eq_ids w y2 zer32 true HTD.out isD_zer (decide_eq_true HE.out.2.1)
                  have he3 := fun w => eq_ids w y3 zer32 true HUD.out isD_zer (decide_eq_true HE.out.2.2)
                  go_wp2_with (first
    | ((with_reducible refine wpList_alloc_blk w12 rfl 23 rfl (ofK .u8 zer32) Try.zeroId ?_); intro w13 hb hbel hsz; have HAH14 := Lib.hid (And.intro hb hbel); clear hb hbel hsz)
    | ((with_reducible refine wpList_store_blk w13 rfl 23 (.tmp 9) (.tmp 51) rfl w12.heap.size 23 (ofK .u8 zer32) (ofK .u8 y3) HAH14.out.1 rfl rfl HUL.out HUI.out (one_ofK _ _) ?_); intro w14 hb hc hs; have HBH14 := Lib.hid (show w14.rangeAt w12.heap.size 0 (ofK .u8 y3) ∧ Below w12.heap.size w12 w14 from ⟨rangeW_blk hb, below_ch HAH14.out.2 hc (Nat.le_refl _) (fun j hj => by have : j = w12.heap.size := hj; omega)⟩); have H14 := Lib.hid (show w14.rangeAt wr.heap.size 0 (ofK .u8 x) ∧ w14.cell? ⟨wr.heap.size, 32, none⟩ = some (.int .i64 c) ∧ w14.cell? ⟨wr.heap.size, 33, none⟩ = some (.int .i64 a) ∧ w14.cell? ⟨wr.heap.size, 34, none⟩ = some (.int .i64 b) ∧ w14.rangeAt w6.heap.size 0 (ofK .u8 y1) ∧ w14.rangeAt w9.heap.size 0 (ofK .u8 y2) ∧ w14.rangeAt w12.heap.size 0 (ofK .u8 y3) ∧ Below w.heap.size w w14 from ⟨rangeW_below H12.out.1 HBH14.out.2, (HBH14.out.2.cell (p := ⟨wr.heap.size, 32, none⟩) (block_of_cell H12.out.2.1)).trans H12.out.2.1, (HBH14.out.2.cell (p := ⟨wr.heap.size, 33, none⟩) (block_of_cell H12.out.2.2.1)).trans H12.out.2.2.1, (HBH14.out.2.cell (p := ⟨wr.heap.size, 34, none⟩) (block_of_cell H12.out.2.2.2.1)).trans H12.out.2.2.2.1, rangeW_below H12.out.2.2.2.2.1 HBH14.out.2, rangeW_below H12.out.2.2.2.2.2.1 HBH14.out.2, HBH14.out.1, below_thn H12.out.2.2.2.2.2.2 HBH14.out.2 (Nat.le_refl _)⟩); have cd32 := H14.out.2.1; have cd33 := H14.out.2.2.1; have cd34 := H14.out.2.2.2.1; clear hb hc hs)
    | ((with_reducible refine wpList_load_want ?_ 23 (.tmp 5) rfl w6.heap.size 0 rfl (ofK .u8 y1) _ H14.out.2.2.2.2.1 Try.underlying23 rfl HPI.out ?_); focus rfl)
    | ((with_reducible refine wpList_load_want ?_ 23 (.tmp 7) rfl w9.heap.size 0 rfl (ofK .u8 y2) _ H14.out.2.2.2.2.2.1 Try.underlying23 rfl HTI.out ?_); focus rfl)
    | ((with_reducible refine wpList_load_want ?_ 23 (.tmp 9) rfl w12.heap.size 0 rfl (ofK .u8 y3) _ H14.out.2.2.2.2.2.2.1 Try.underlying23 rfl HUI.out ?_); focus rfl)
    | ((with_reducible refine wpList_build_zer ?_ rfl ?_); focus rfl))
                  have C1 := Lib.hid (fun q => lstart_any x c (grew w14 q) HXD.out (by omega) (by omega))
                  rw [HE.out.1] at C1
                  have g32 := fun q => cell_grew H14.out.2.1 q; have g33 := fun q => cell_grew H14.out.2.2.1 q; have g34 := fun q => cell_grew H14.out.2.2.2.1 q
                  clear cd32 cd33 cd34
                  refine wp_region_grew (by kernel_rfl) (by kernel_rfl) ?_
                  repeat (first | go_big_quiet_skip | (go_big_quiet_want; (first | (refine quiet_load_mid 23 (.tmp 5) rfl w6.heap.size 0 rfl (ofK .u8 y1) _ (fun w' hw' => rangeAt_grew H14.out.2.2.2.2.1 w' hw') Try.underlying23 rfl HPI.out ?_; go_simp; go_big_quiet_on) | (refine quiet_load_mid 23 (.tmp 66) rfl wr.heap.size 0 rfl (ofK .u8 x) _ (fun w' hw' => rangeAt_grew H14.out.1 w' hw') Try.underlying23 rfl HXI.out ?_; go_simp; go_big_quiet_on) | (go_big_quiet_op; (first | go_big_quiet_on | (apply Exists.intro; refine ⟨fun _ => ?_, ?_⟩; (focus (first | (go_at_call 54; exact calls_grew (C1.out _)))); go_big_quiet_on))))))
                  refine wpQuiet_nil ?_
                  intro w15 hw15
                  obtain ⟨q, rfl⟩ := hw15
                  have H15 := Lib.hid (show (grew w14 q).rangeAt wr.heap.size 0 (ofK .u8 x) ∧ (grew w14 q).cell? ⟨wr.heap.size, 32, none⟩ = some (.int .i64 c) ∧ (grew w14 q).cell? ⟨wr.heap.size, 33, none⟩ = some (.int .i64 a) ∧ (grew w14 q).cell? ⟨wr.heap.size, 34, none⟩ = some (.int .i64 b) ∧ (grew w14 q).rangeAt w6.heap.size 0 (ofK .u8 y1) ∧ (grew w14 q).rangeAt w9.heap.size 0 (ofK .u8 y2) ∧ (grew w14 q).rangeAt w12.heap.size 0 (ofK .u8 y3) ∧ Below w.heap.size w (grew w14 q) from ⟨rangeW_below H14.out.1 (below_grew w14 q), ((below_grew w14 q).cell (p := ⟨wr.heap.size, 32, none⟩) (block_of_cell H14.out.2.1)).trans H14.out.2.1, ((below_grew w14 q).cell (p := ⟨wr.heap.size, 33, none⟩) (block_of_cell H14.out.2.2.1)).trans H14.out.2.2.1, ((below_grew w14 q).cell (p := ⟨wr.heap.size, 34, none⟩) (block_of_cell H14.out.2.2.2.1)).trans H14.out.2.2.2.1, rangeW_below H14.out.2.2.2.2.1 (below_grew w14 q), rangeW_below H14.out.2.2.2.2.2.1 (below_grew w14 q), rangeW_below H14.out.2.2.2.2.2.2.1 (below_grew w14 q), below_thn H14.out.2.2.2.2.2.2.2 (below_grew w14 q) (Nat.le_refl _)⟩)
                  clear C1 g32 g33 g34
                  generalize grew w14 q = w15 at H15 ⊢
                  have ce1532 := H15.out.2.1; have ce1533 := H15.out.2.2.1; have ce1534 := H15.out.2.2.2.1
                  go_wp2_with (first
    | ((with_reducible refine wpList_load_want ?_ 23 (.tmp 5) rfl w6.heap.size 0 rfl (ofK .u8 y1) _ H15.out.2.2.2.2.1 Try.underlying23 rfl HPI.out ?_); focus rfl)
    | ((with_reducible refine wpList_load_want ?_ 23 (.tmp 7) rfl w9.heap.size 0 rfl (ofK .u8 y2) _ H15.out.2.2.2.2.2.1 Try.underlying23 rfl HTI.out ?_); focus rfl)
    | ((with_reducible refine wpList_load_want ?_ 23 (.tmp 9) rfl w12.heap.size 0 rfl (ofK .u8 y3) _ H15.out.2.2.2.2.2.2.1 Try.underlying23 rfl HUI.out ?_); focus rfl)
    | ((with_reducible refine wpList_build_zer ?_ rfl ?_); focus rfl))
                  go_roundw
                  case rel => exact ⟨k + 1, by omega, by omega, by go_num, Lib.hid H15.out.2.2.2.2.2.2.2⟩
                  case measure => simp [intOf]; omega
            · skip
              obtain ⟨hy1, rfl⟩ := HS1.out.1 (by omega)
              obtain ⟨hy2, rfl⟩ := HS2.out.2.1 (by omega)
              obtain ⟨hy3, rfl⟩ := HS3.out.2.1 (by unfold ChOk; omega)
              have HE := Lib.hid (And.intro hy1 (And.intro hy2 hy3))
              clear hy1 hy2 hy3
              have he := fun w => eq_ids w y1 y1 true HPD.out HPD.out (decide_eq_true rfl)
              have he2 := fun w => eq_ids w y2 zer32 true HTD.out isD_zer (decide_eq_true HE.out.2.1)
              have he3 := fun w => eq_ids w y3 zer32 true HUD.out isD_zer (decide_eq_true HE.out.2.2)
              go_wp2_with (first
    | ((with_reducible refine wpList_alloc_blk w12 rfl 23 rfl (ofK .u8 zer32) Try.zeroId ?_); intro w13 hb hbel hsz; have HAH14 := Lib.hid (And.intro hb hbel); clear hb hbel hsz)
    | ((with_reducible refine wpList_store_blk w13 rfl 23 (.tmp 9) (.tmp 51) rfl w12.heap.size 23 (ofK .u8 zer32) (ofK .u8 y3) HAH14.out.1 rfl rfl HUL.out HUI.out (one_ofK _ _) ?_); intro w14 hb hc hs; have HBH14 := Lib.hid (show w14.rangeAt w12.heap.size 0 (ofK .u8 y3) ∧ Below w12.heap.size w12 w14 from ⟨rangeW_blk hb, below_ch HAH14.out.2 hc (Nat.le_refl _) (fun j hj => by have : j = w12.heap.size := hj; omega)⟩); have H14 := Lib.hid (show w14.rangeAt wr.heap.size 0 (ofK .u8 x) ∧ w14.cell? ⟨wr.heap.size, 32, none⟩ = some (.int .i64 c) ∧ w14.cell? ⟨wr.heap.size, 33, none⟩ = some (.int .i64 a) ∧ w14.cell? ⟨wr.heap.size, 34, none⟩ = some (.int .i64 b) ∧ w14.rangeAt w6.heap.size 0 (ofK .u8 y1) ∧ w14.rangeAt w9.heap.size 0 (ofK .u8 y2) ∧ w14.rangeAt w12.heap.size 0 (ofK .u8 y3) ∧ Below w.heap.size w w14 from ⟨rangeW_below H12.out.1 HBH14.out.2, (HBH14.out.2.cell (p := ⟨wr.heap.size, 32, none⟩) (block_of_cell H12.out.2.1)).trans H12.out.2.1, (HBH14.out.2.cell (p := ⟨wr.heap.size, 33, none⟩) (block_of_cell H12.out.2.2.1)).trans H12.out.2.2.1, (HBH14.out.2.cell (p := ⟨wr.heap.size, 34, none⟩) (block_of_cell H12.out.2.2.2.1)).trans H12.out.2.2.2.1, rangeW_below H12.out.2.2.2.2.1 HBH14.out.2, rangeW_below H12.out.2.2.2.2.2.1 HBH14.out.2, HBH14.out.1, below_thn H12.out.2.2.2.2.2.2 HBH14.out.2 (Nat.le_refl _)⟩); have cd32 := H14.out.2.1; have cd33 := H14.out.2.2.1; have cd34 := H14.out.2.2.2.1; clear hb hc hs)
    | ((with_reducible refine wpList_load_want ?_ 23 (.tmp 5) rfl w6.heap.size 0 rfl (ofK .u8 y1) _ H14.out.2.2.2.2.1 Try.underlying23 rfl HPI.out ?_); focus rfl)
    | ((with_reducible refine wpList_load_want ?_ 23 (.tmp 7) rfl w9.heap.size 0 rfl (ofK .u8 y2) _ H14.out.2.2.2.2.2.1 Try.underlying23 rfl HTI.out ?_); focus rfl)
    | ((with_reducible refine wpList_load_want ?_ 23 (.tmp 9) rfl w12.heap.size 0 rfl (ofK .u8 y3) _ H14.out.2.2.2.2.2.2.1 Try.underlying23 rfl HUI.out ?_); focus rfl)
    | ((with_reducible refine wpList_build_zer ?_ rfl ?_); focus rfl))
              have C1 := Lib.hid (fun q => lstart_any x c (grew w14 q) HXD.out (by omega) (by omega))
              rw [HE.out.1] at C1
              have g32 := fun q => cell_grew H14.out.2.1 q; have g33 := fun q => cell_grew H14.out.2.2.1 q; have g34 := fun q => cell_grew H14.out.2.2.2.1 q
              clear cd32 cd33 cd34
              refine wp_region_grew (by kernel_rfl) (by kernel_rfl) ?_
              repeat (first | go_big_quiet_skip | (go_big_quiet_want; (first | (refine quiet_load_mid 23 (.tmp 5) rfl w6.heap.size 0 rfl (ofK .u8 y1) _ (fun w' hw' => rangeAt_grew H14.out.2.2.2.2.1 w' hw') Try.underlying23 rfl HPI.out ?_; go_simp; go_big_quiet_on) | (refine quiet_load_mid 23 (.tmp 66) rfl wr.heap.size 0 rfl (ofK .u8 x) _ (fun w' hw' => rangeAt_grew H14.out.1 w' hw') Try.underlying23 rfl HXI.out ?_; go_simp; go_big_quiet_on) | (go_big_quiet_op; (first | go_big_quiet_on | (apply Exists.intro; refine ⟨fun _ => ?_, ?_⟩; (focus (first | (go_at_call 54; exact calls_grew (C1.out _)))); go_big_quiet_on))))))
              refine wpQuiet_nil ?_
              intro w15 hw15
              obtain ⟨q, rfl⟩ := hw15
              have H15 := Lib.hid (show (grew w14 q).rangeAt wr.heap.size 0 (ofK .u8 x) ∧ (grew w14 q).cell? ⟨wr.heap.size, 32, none⟩ = some (.int .i64 c) ∧ (grew w14 q).cell? ⟨wr.heap.size, 33, none⟩ = some (.int .i64 a) ∧ (grew w14 q).cell? ⟨wr.heap.size, 34, none⟩ = some (.int .i64 b) ∧ (grew w14 q).rangeAt w6.heap.size 0 (ofK .u8 y1) ∧ (grew w14 q).rangeAt w9.heap.size 0 (ofK .u8 y2) ∧ (grew w14 q).rangeAt w12.heap.size 0 (ofK .u8 y3) ∧ Below w.heap.size w (grew w14 q) from ⟨rangeW_below H14.out.1 (below_grew w14 q), ((below_grew w14 q).cell (p := ⟨wr.heap.size, 32, none⟩) (block_of_cell H14.out.2.1)).trans H14.out.2.1, ((below_grew w14 q).cell (p := ⟨wr.heap.size, 33, none⟩) (block_of_cell H14.out.2.2.1)).trans H14.out.2.2.1, ((below_grew w14 q).cell (p := ⟨wr.heap.size, 34, none⟩) (block_of_cell H14.out.2.2.2.1)).trans H14.out.2.2.2.1, rangeW_below H14.out.2.2.2.2.1 (below_grew w14 q), rangeW_below H14.out.2.2.2.2.2.1 (below_grew w14 q), rangeW_below H14.out.2.2.2.2.2.2.1 (below_grew w14 q), below_thn H14.out.2.2.2.2.2.2.2 (below_grew w14 q) (Nat.le_refl _)⟩)
              clear C1 g32 g33 g34
              generalize grew w14 q = w15 at H15 ⊢
              have ce1532 := H15.out.2.1; have ce1533 := H15.out.2.2.1; have ce1534 := H15.out.2.2.2.1
              go_wp2_with (first
    | ((with_reducible refine wpList_load_want ?_ 23 (.tmp 5) rfl w6.heap.size 0 rfl (ofK .u8 y1) _ H15.out.2.2.2.2.1 Try.underlying23 rfl HPI.out ?_); focus rfl)
    | ((with_reducible refine wpList_load_want ?_ 23 (.tmp 7) rfl w9.heap.size 0 rfl (ofK .u8 y2) _ H15.out.2.2.2.2.2.1 Try.underlying23 rfl HTI.out ?_); focus rfl)
    | ((with_reducible refine wpList_load_want ?_ 23 (.tmp 9) rfl w12.heap.size 0 rfl (ofK .u8 y3) _ H15.out.2.2.2.2.2.2.1 Try.underlying23 rfl HUI.out ?_); focus rfl)
    | ((with_reducible refine wpList_build_zer ?_ rfl ?_); focus rfl))
              go_roundw
              case rel => exact ⟨k + 1, by omega, by omega, by go_num, Lib.hid H15.out.2.2.2.2.2.2.2⟩
              case measure => simp [intOf]; omega
          · skip
            obtain ⟨hy1, rfl⟩ := HS1.out.2.1 (by omega)
            obtain ⟨hy2, rfl⟩ := HS2.out.2.1 (by omega)
            obtain ⟨hy3, rfl⟩ := HS3.out.2.1 (by unfold ChOk; omega)
            have HE := Lib.hid (And.intro hy1 (And.intro hy2 hy3))
            clear hy1 hy2 hy3
            have he := fun w => eq_ids w y1 zer32 true HPD.out isD_zer (decide_eq_true HE.out.1)
            have he2 := fun w => eq_ids w y2 zer32 true HTD.out isD_zer (decide_eq_true HE.out.2.1)
            have he3 := fun w => eq_ids w y3 zer32 true HUD.out isD_zer (decide_eq_true HE.out.2.2)
            go_wp2_with (first
    | ((with_reducible refine wpList_alloc_blk w12 rfl 23 rfl (ofK .u8 zer32) Try.zeroId ?_); intro w13 hb hbel hsz; have HAH14 := Lib.hid (And.intro hb hbel); clear hb hbel hsz)
    | ((with_reducible refine wpList_store_blk w13 rfl 23 (.tmp 9) (.tmp 51) rfl w12.heap.size 23 (ofK .u8 zer32) (ofK .u8 y3) HAH14.out.1 rfl rfl HUL.out HUI.out (one_ofK _ _) ?_); intro w14 hb hc hs; have HBH14 := Lib.hid (show w14.rangeAt w12.heap.size 0 (ofK .u8 y3) ∧ Below w12.heap.size w12 w14 from ⟨rangeW_blk hb, below_ch HAH14.out.2 hc (Nat.le_refl _) (fun j hj => by have : j = w12.heap.size := hj; omega)⟩); have H14 := Lib.hid (show w14.rangeAt wr.heap.size 0 (ofK .u8 x) ∧ w14.cell? ⟨wr.heap.size, 32, none⟩ = some (.int .i64 c) ∧ w14.cell? ⟨wr.heap.size, 33, none⟩ = some (.int .i64 a) ∧ w14.cell? ⟨wr.heap.size, 34, none⟩ = some (.int .i64 b) ∧ w14.rangeAt w6.heap.size 0 (ofK .u8 y1) ∧ w14.rangeAt w9.heap.size 0 (ofK .u8 y2) ∧ w14.rangeAt w12.heap.size 0 (ofK .u8 y3) ∧ Below w.heap.size w w14 from ⟨rangeW_below H12.out.1 HBH14.out.2, (HBH14.out.2.cell (p := ⟨wr.heap.size, 32, none⟩) (block_of_cell H12.out.2.1)).trans H12.out.2.1, (HBH14.out.2.cell (p := ⟨wr.heap.size, 33, none⟩) (block_of_cell H12.out.2.2.1)).trans H12.out.2.2.1, (HBH14.out.2.cell (p := ⟨wr.heap.size, 34, none⟩) (block_of_cell H12.out.2.2.2.1)).trans H12.out.2.2.2.1, rangeW_below H12.out.2.2.2.2.1 HBH14.out.2, rangeW_below H12.out.2.2.2.2.2.1 HBH14.out.2, HBH14.out.1, below_thn H12.out.2.2.2.2.2.2 HBH14.out.2 (Nat.le_refl _)⟩); have cd32 := H14.out.2.1; have cd33 := H14.out.2.2.1; have cd34 := H14.out.2.2.2.1; clear hb hc hs)
    | ((with_reducible refine wpList_load_want ?_ 23 (.tmp 5) rfl w6.heap.size 0 rfl (ofK .u8 y1) _ H14.out.2.2.2.2.1 Try.underlying23 rfl HPI.out ?_); focus rfl)
    | ((with_reducible refine wpList_load_want ?_ 23 (.tmp 7) rfl w9.heap.size 0 rfl (ofK .u8 y2) _ H14.out.2.2.2.2.2.1 Try.underlying23 rfl HTI.out ?_); focus rfl)
    | ((with_reducible refine wpList_load_want ?_ 23 (.tmp 9) rfl w12.heap.size 0 rfl (ofK .u8 y3) _ H14.out.2.2.2.2.2.2.1 Try.underlying23 rfl HUI.out ?_); focus rfl)
    | ((with_reducible refine wpList_build_zer ?_ rfl ?_); focus rfl))
            go_roundw
            case rel => exact ⟨k + 1, by omega, by omega, by go_num, Lib.hid H14.out.2.2.2.2.2.2.2⟩
            case measure => simp [intOf]; omega
        · skip
          obtain ⟨hy1, rfl⟩ := HS1.out.2.1 (by omega)
          obtain ⟨hy2, rfl⟩ := HS2.out.2.1 (by omega)
          obtain ⟨hy3, rfl⟩ := HS3.out.2.1 (by unfold ChOk; omega)
          have HE := Lib.hid (And.intro hy1 (And.intro hy2 hy3))
          clear hy1 hy2 hy3
          have he := fun w => eq_ids w y1 zer32 true HPD.out isD_zer (decide_eq_true HE.out.1)
          have he2 := fun w => eq_ids w y2 zer32 true HTD.out isD_zer (decide_eq_true HE.out.2.1)
          have he3 := fun w => eq_ids w y3 zer32 true HUD.out isD_zer (decide_eq_true HE.out.2.2)
          go_wp2_with (first
    | ((with_reducible refine wpList_alloc_blk w12 rfl 23 rfl (ofK .u8 zer32) Try.zeroId ?_); intro w13 hb hbel hsz; have HAH14 := Lib.hid (And.intro hb hbel); clear hb hbel hsz)
    | ((with_reducible refine wpList_store_blk w13 rfl 23 (.tmp 9) (.tmp 51) rfl w12.heap.size 23 (ofK .u8 zer32) (ofK .u8 y3) HAH14.out.1 rfl rfl HUL.out HUI.out (one_ofK _ _) ?_); intro w14 hb hc hs; have HBH14 := Lib.hid (show w14.rangeAt w12.heap.size 0 (ofK .u8 y3) ∧ Below w12.heap.size w12 w14 from ⟨rangeW_blk hb, below_ch HAH14.out.2 hc (Nat.le_refl _) (fun j hj => by have : j = w12.heap.size := hj; omega)⟩); have H14 := Lib.hid (show w14.rangeAt wr.heap.size 0 (ofK .u8 x) ∧ w14.cell? ⟨wr.heap.size, 32, none⟩ = some (.int .i64 c) ∧ w14.cell? ⟨wr.heap.size, 33, none⟩ = some (.int .i64 a) ∧ w14.cell? ⟨wr.heap.size, 34, none⟩ = some (.int .i64 b) ∧ w14.rangeAt w6.heap.size 0 (ofK .u8 y1) ∧ w14.rangeAt w9.heap.size 0 (ofK .u8 y2) ∧ w14.rangeAt w12.heap.size 0 (ofK .u8 y3) ∧ Below w.heap.size w w14 from ⟨rangeW_below H12.out.1 HBH14.out.2, (HBH14.out.2.cell (p := ⟨wr.heap.size, 32, none⟩) (block_of_cell H12.out.2.1)).trans H12.out.2.1, (HBH14.out.2.cell (p := ⟨wr.heap.size, 33, none⟩) (block_of_cell H12.out.2.2.1)).trans H12.out.2.2.1, (HBH14.out.2.cell (p := ⟨wr.heap.size, 34, none⟩) (block_of_cell H12.out.2.2.2.1)).trans H12.out.2.2.2.1, rangeW_below H12.out.2.2.2.2.1 HBH14.out.2, rangeW_below H12.out.2.2.2.2.2.1 HBH14.out.2, HBH14.out.1, below_thn H12.out.2.2.2.2.2.2 HBH14.out.2 (Nat.le_refl _)⟩); have cd32 := H14.out.2.1; have cd33 := H14.out.2.2.1; have cd34 := H14.out.2.2.2.1; clear hb hc hs)
    | ((with_reducible refine wpList_load_want ?_ 23 (.tmp 5) rfl w6.heap.size 0 rfl (ofK .u8 y1) _ H14.out.2.2.2.2.1 Try.underlying23 rfl HPI.out ?_); focus rfl)
    | ((with_reducible refine wpList_load_want ?_ 23 (.tmp 7) rfl w9.heap.size 0 rfl (ofK .u8 y2) _ H14.out.2.2.2.2.2.1 Try.underlying23 rfl HTI.out ?_); focus rfl)
    | ((with_reducible refine wpList_load_want ?_ 23 (.tmp 9) rfl w12.heap.size 0 rfl (ofK .u8 y3) _ H14.out.2.2.2.2.2.2.1 Try.underlying23 rfl HUI.out ?_); focus rfl)
    | ((with_reducible refine wpList_build_zer ?_ rfl ?_); focus rfl))
          go_roundw
          case rel => exact ⟨k + 1, by omega, by omega, by go_num, Lib.hid H14.out.2.2.2.2.2.2.2⟩
          case measure => simp [intOf]; omega
    · obtain rfl : k = n := by omega
      go_wp2_with fail
      go_ret
      exact ⟨rfl, HR.out⟩

end Go.Proofs.Ytkbhehnpgnilmaa
