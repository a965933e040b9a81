/-
  Layer 5: term.Decode, where it fails, walked. Conditions: bytes.
-/
import Derived.Test.YtfenikoajadiaaaTmBc
import Derived.Test.YtfenikoajadiaaaTmV
import Derived.Defers
import Derived.Recover
namespace Go.Proofs.Ytfenikoajadiaaa
open Go Go.RowKit
set_option linter.unusedSimpArgs false
set_option linter.unusedVariables false


theorem Try.zeroWr : ∀ w, (zeroValue 66).run Try.prog w = .ok (.agg [Value.int .i64 0].toArray) w := fun w => by kernel_rfl
theorem Try.sizeWr (e : Int) : (Try.prog.info? 66).map (·.size) = some [Value.int IntKind.i64 e].length := by kernel_rfl
theorem Try.buildTm0 : ∀ w, (Instr.build 24 #[]).run Try.prog w = .ok (.agg (tmC 0 0 0 ⟨#[]⟩ (.slice none 0 0)).toArray) w := fun w => by kernel_rfl
theorem Try.assertWr (e : Int) : ∀ w, (Instr.typeAssert (wrongV e) 20 66 true).run Try.prog w = .ok (.tuple #[.agg #[.int .i64 e], .bool true]) w := fun w => by kernel_rfl


set_option maxRecDepth 100000 in
set_option maxHeartbeats 4000000 in
theorem clo_caught (e : Int) (w W : World) (g2 g3 g4 : Nat) (hD : DeI w g2 g3 g4 (tmC 0 0 0 ⟨#[]⟩ (.slice none 0 0)) 0 (0) W) (hg : w.heap.size ≤ g2 ∧ g2 < g3 ∧ g3 < g4) :
    CallsD Try.prog 42 #[.pointer (some ⟨g2, 0, none⟩), .pointer (some ⟨g3, 0, none⟩), .pointer (some ⟨g4, 0, none⟩)] (.panicking [{ v := wrongV e, recovered := false }]) W fun en u' w' =>
      en = .returned (.tuple #[]) ∧ u' = .panicking [{ v := wrongV e, recovered := true }] ∧ DeI w g2 g3 g4 (tmC 0 0 0 ⟨#[]⟩ (.slice none 0 0)) 0 (e) w' := by
  have HD := Lib.hid hD
  have HG := Lib.hid hg
  have asr := Try.assertWr e
  have nq : ∀ w : World, (binOp BinOp.neq 20 (wrongV e) .nilIface).run Try.prog w = .ok (.bool true) w := fun w => by kernel_rfl
  have eg : ∀ w : World, (eqGuard BinOp.neq 20 (.tmp 7) (.const .nilIface) (wrongV e) .nilIface).run Try.prog w = .ok () w := fun w => by kernel_rfl
  clear hD hg
  refine callsD_of_wpS Try.func42 rfl fun c₀ cs hu => ?_
  apply wpS_seq
  apply wpS_region
  simp [wpOpsS, go_sem, recoverD, hu, Try.ntmps42, Exit.thenS]
  refine wpS_of_wp ?_
  show Code.wp _ _ _ { tmps := #[.pointer (some ⟨g2, 0, none⟩), .pointer (some ⟨g3, 0, none⟩), .pointer (some ⟨g4, 0, none⟩), wrongV e, undef, undef, wrongV e, undef, undef, undef, undef, undef, undef, undef, undef, undef, undef, undef, undef, undef], defers := [] } W
  go_wp2_with (first
    | ((with_reducible refine wpList_alloc_blk W rfl 66 rfl [Value.int .i64 0] Try.zeroWr ?_); intro a1 hb hbel hsz; have D1 := HD.out.low hbel; have HB1 := Lib.hid hb; clear hb hbel hsz)
    | ((with_reducible refine wpList_store_blk a1 rfl 66 (.tmp 4) (.tmp 12) rfl W.heap.size 66 [Value.int .i64 0] [Value.int .i64 e] HB1.out rfl ?_ rfl (Try.sizeWr e) (by simp [Value.oneCell']) ?_); (focus rfl); intro a2 hb hc hs; have HX2 := Lib.hid (show (DeI w g2 g3 g4 (tmC 0 0 0 ⟨#[]⟩ (.slice none 0 0)) 0 (0) a2) ∧ Blk a2 W.heap.size 66 [.int .i64 e] ∧ g4 < W.heap.size from ⟨D1.ch hc (fun h => by have h : g2 = W.heap.size := h; have := HD.out.r2.lt; omega) (fun h => by have h : g3 = W.heap.size := h; have := HD.out.r3.lt; omega) (fun h => by have h : g4 = W.heap.size := h; have := HD.out.r4.lt; omega) (fun k hk => by have hk : k = W.heap.size := hk; have := HD.out.bel.size; omega), hb, HD.out.r4.lt⟩); clear hb hc hs D1 HB1))
  generalize W.heap.size = gw at HX2 ⊢
  go_wp2_with fail
  refine wp_region_takes (fun w' => w'.cell? ⟨gw, 0, none⟩ = some (.int .i64 e)) [0, 1, 2] 3 (by kernel_rfl) rfl (by kernel_rfl) (by kernel_rfl) (HX2.out.2.1.cell 0) ?_
  iterate 3 (refine' HeldL.run ?_ ?_ ?_ ?_; rotate_left 2; (simp only [List.getElem?_toArray, List.getElem?_cons_zero, List.getElem?_cons_succ]; rfl); rfl; (first | (rintro w' k0; exact exec_build rfl rfl (Try.buildTm0 w')) | (rintro w' k0; go_simp; with_reducible rfl)); simp only [Act.put, List.setIfInBounds_toArray, List.set_cons_zero, List.set_cons_succ])
  have sm := (Sm.refl a2).drew
  have HV2 := Lib.hid (And.intro (HX2.out.1.low (sm.below _)) (And.intro (HX2.out.2.1.below (sm.below _) HX2.out.2.1.lt) HX2.out.2.2))
  clear sm
  generalize a2.drew = v1 at HV2 ⊢
  refine' wpAnyH_one 3 (by kernel_rfl) ?_ ?_; rotate_left; (simp only [List.getElem?_toArray, List.getElem?_cons_zero, List.getElem?_cons_succ]; rfl)
  refine wpList_store_blk v1 rfl 24 (.tmp 0) (.tmp 17) rfl g2 24 (tmC 0 0 0 ⟨#[]⟩ (.slice none 0 0)) (tmC 0 0 0 ⟨#[]⟩ (.slice none 0 0)) HV2.out.1.r2 rfl rfl rfl (tmC_info _ _ _ _ _) (tmC_one _ _ _ _ _ _ _) ?_
  intro z3 hb hc hs
  have H4 := Lib.hid (show (DeI w g2 g3 g4 (tmC 0 0 0 ⟨#[]⟩ (.slice none 0 0)) 0 (0) z3) ∧ Blk z3 gw 66 [.int .i64 e] ∧ g4 < gw from ⟨⟨hb, HV2.out.1.r3.keep hc (fun h => by have h : g3 = g2 := h; have := HG.out; omega), HV2.out.1.r4.keep hc (fun h => by have h : g4 = g2 := h; have := HG.out; omega), below_ch HV2.out.1.bel hc (Nat.le_refl _) (fun k hk => by have hk : k = g2 := hk; have := HG.out; omega)⟩, HV2.out.2.1.keep hc (fun h => by have h : gw = g2 := h; have := HG.out; have := HV2.out.2.2; omega), HV2.out.2.2⟩)
  clear hb hc hs
  try simp only [Act.put, List.setIfInBounds_toArray, List.set_cons_zero, List.set_cons_succ]
  refine QK.normal ⟨(H4.out.2.1.cell 0), ?_⟩
  refine' wpAnyH_one 4 (by kernel_rfl) ?_ ?_; rotate_left; (simp only [List.getElem?_toArray, List.getElem?_cons_zero, List.getElem?_cons_succ]; rfl)
  refine wpList_store1 z3 rfl 3 (.tmp 1) (.const (.int .i64 0)) rfl g3 0 3 [.int .i64 0] H4.out.1.r3 rfl (.int .i64 0) rfl (by simp) Try.sizeInt1 rfl rfl ?_
  intro z5 hb hc hs
  have H6 := Lib.hid (show (DeI w g2 g3 g4 (tmC 0 0 0 ⟨#[]⟩ (.slice none 0 0)) 0 (0) z5) ∧ Blk z5 gw 66 [.int .i64 e] ∧ g4 < gw from ⟨⟨H4.out.1.r2.keep hc (fun h => by have h : g2 = g3 := h; have := HG.out; omega), hb, H4.out.1.r4.keep hc (fun h => by have h : g4 = g3 := h; have := HG.out; omega), below_ch H4.out.1.bel hc (Nat.le_refl _) (fun k hk => by have hk : k = g3 := hk; have := HG.out; omega)⟩, H4.out.2.1.keep hc (fun h => by have h : gw = g3 := h; have := HG.out; have := H4.out.2.2; omega), H4.out.2.2⟩)
  clear hb hc hs
  try simp only [Act.put, List.setIfInBounds_toArray, List.set_cons_zero, List.set_cons_succ]
  refine QK.normal ⟨(H6.out.2.1.cell 0), ?_⟩
  refine' wpAnyH_one 5 (by kernel_rfl) ?_ ?_; rotate_left; (simp only [List.getElem?_toArray, List.getElem?_cons_zero, List.getElem?_cons_succ]; rfl)
  refine wpList_store1 z5 rfl 28 (.tmp 2) (.tmp 19) rfl g4 0 28 [.int .i64 0] H6.out.1.r4 rfl (.int .i64 e) rfl (by simp) Try.sizeEr1 rfl rfl ?_
  intro z7 hb hc hs
  have H8 := Lib.hid (show (DeI w g2 g3 g4 (tmC 0 0 0 ⟨#[]⟩ (.slice none 0 0)) 0 (e) z7) ∧ Blk z7 gw 66 [.int .i64 e] ∧ g4 < gw from ⟨⟨H6.out.1.r2.keep hc (fun h => by have h : g2 = g4 := h; have := HG.out; omega), H6.out.1.r3.keep hc (fun h => by have h : g3 = g4 := h; have := HG.out; omega), hb, below_ch H6.out.1.bel hc (Nat.le_refl _) (fun k hk => by have hk : k = g4 := hk; have := HG.out; omega)⟩, H6.out.2.1.keep hc (fun h => by have h : gw = g4 := h; have := HG.out; have := H6.out.2.2; omega), H6.out.2.2⟩)
  clear hb hc hs
  try simp only [Act.put, List.setIfInBounds_toArray, List.set_cons_zero, List.set_cons_succ]
  refine QK.normal ⟨(H8.out.2.1.cell 0), ?_⟩
  refine wpAnyH_done (by kernel_rfl) ?_ _
  refine NoPanic.normal ?_
  go_wp2_with fail
  exact ⟨rfl, _, rfl, _, results_none rfl _ _ _, rfl, rfl, H8.out.1⟩


/-- what Decode answers, where it fails -/
def DecX (w : World) (x : Int) (e : Ending) (w' : World) : Prop := e = .returned (.tuple #[.agg (tmC 0 0 0 ⟨#[]⟩ (.slice none 0 0)).toArray, .int .i64 0, .int .i64 x]) ∧ Below w.heap.size w w'

set_option maxRecDepth 100000 in
set_option maxHeartbeats 8000000 in
theorem decode_bad (bs : List Int) (x : Int) (v : Value) (N : Nat) (w : World) (hd : decF 60 bs 1200 = .error x) (hv : Sl w v (ofK .u8 bs)) (hAB : AllB bs) (hN : bs.length = N) (hlen : N ≤ 1000000) : Calls Try.prog 11 #[v] w (DecX w x) := by
  have hmf : ∀ (fn : Fn) (first cap : Array Value) (w : World), (Instr.makeFunc fn first cap).run Try.prog w = .ok (.func fn first cap) w := fun _ _ _ _ => rfl
  have HWK := Lib.hid hd
  have HV := Lib.hid hv
  have HA := Lib.hid hAB
  have HN := Lib.hid hN
  obtain ⟨ao, c, rfl, hc1, hc2, -⟩ := hv.nums
  rw [hN] at HV hc1 ⊢
  have HLE := Lib.hid hlen
  clear hd hv hAB hN
  go_enter_defers Try.func11, Try.ntmps11
  go_wp2_with (first
    | ((with_reducible refine wpList_alloc_blk w rfl 24 rfl (tmC 0 0 0 ⟨#[]⟩ (.slice none 0 0)) Try.zeroTm ?_); intro a1 hb hbel hsz; have H1 := Lib.hid (And.intro hb hbel); clear hb hbel hsz)
    | ((with_reducible refine wpList_alloc_int a1 rfl rfl ?_); intro a2 hb hbel hsz; have H2 := Lib.hid (And.intro hb hbel); clear hb hbel hsz)
    | ((with_reducible refine wpList_alloc_er a2 rfl rfl ?_); intro a3 hb hbel hsz; have D3 : DeI w w.heap.size a1.heap.size a2.heap.size (tmC 0 0 0 ⟨#[]⟩ (.slice none 0 0)) (0) (0) a3 := ⟨(H1.out.1.below H2.out.2 H1.out.1.lt).below hbel (by have := H2.out.1.lt; have := H1.out.1.lt; omega), H2.out.1.below hbel H2.out.1.lt, hb, below_thn (below_thn H1.out.2 H2.out.2 (Nat.le_refl _)) hbel (Nat.le_refl _)⟩; clear hb hbel hsz))
  have HG := Lib.hid (show w.heap.size < a1.heap.size ∧ a1.heap.size < a2.heap.size ∧ a2.heap.size < a3.heap.size from ⟨H1.out.1.lt, H2.out.1.lt, D3.r4.lt⟩)
  refine (read_any (.slice ao N c) bs a3 (HV.out.below D3.bel (Nat.le_refl _)) (by have := HN.out; have := HLE.out; omega)).mono ?_
  rintro e' a4 ⟨b, rr, rfl, hb1, hb2, hr1, hr2, hrd, hbel⟩
  have D4 := D3.low hbel
  have HR := Lib.hid (And.intro hrd (And.intro hb1 (And.intro hb2 (And.intro hr1 hr2))))
  clear hrd hbel hb1 hb2 hr1 hr2 D3 H1 H2
  go_wp2_with (first
    | ((with_reducible refine wpList_buildRd rfl (.tmp 7) 1200 rfl (some ⟨b, 0, none⟩) rfl ?_))
    | ((with_reducible refine wpList_box_blk a4 rfl 64 (.tmp 8) rfl [.pointer (some ⟨b, 0, none⟩), .int .i64 1200] rfl ?_); intro a5 hb hbel hsz; have D5 := D4.low hbel; have HR5 := Lib.hid (show Rd a5 b rr bs 0 ∧ Blk a5 a4.heap.size 64 [.pointer (some ⟨b, 0, none⟩), .int .i64 1200] from ⟨HR.out.1.keep (Ch.of_below (S := fun _ => False) hbel (Nat.le_refl _)) (fun h => h) (fun h => h), hb⟩); clear hb hbel hsz))
  refine (term_bad 60 bs 1200 x a4.heap.size b rr a5 (by omega) HWK.out HR5.out.1 HR5.out.2 (by have := HR.out.2.2.1; omega) (by have := HR.out.2.2.2.2; omega) (by have := HR.out.2.2.2.2; have := HR5.out.2.lt; omega) HA.out (by have := HN.out; have := HLE.out; omega) (by omega) (by omega)).mono ?_
  rintro e' a6 ⟨rfl, hc⟩
  have D6 := D5.ch hc (by have := HG.out; have := HR.out; omega) (by have := HG.out; have := HR.out; omega) (by have := HG.out; have := HR.out; omega) (fun k hk => by have := HG.out; have := HR.out; omega)
  clear hc
  refine leaves_cons (f := 42) (args := #[.pointer (some ⟨w.heap.size, 0, none⟩), .pointer (some ⟨a1.heap.size, 0, none⟩), .pointer (some ⟨a2.heap.size, 0, none⟩)]) (by simp) (by simp [go_sem]) ?_
  refine (clo_caught x w a6 _ _ _ D6 ⟨Nat.le_refl _, HG.out.1, HG.out.2.1⟩).mono ?_
  rintro e u' w'' ⟨rfl, rfl, D7⟩
  refine ⟨_, results_ccc Try.results11 _ _ w.heap.size a1.heap.size a2.heap.size _ _ _ rfl rfl rfl (run_loadVar_mid (P := Try.prog) _ w.heap.size 0 24 (tmC 0 0 0 ⟨#[]⟩ (.slice none 0 0)) _ (rangeW_blk D7.r2) Try.underlying24 rfl (tmC_info _ _ _ _ _)) (load_int D7.r3) (load_er D7.r4), ?_⟩
  exact ⟨rfl, D7.bel⟩


end Go.Proofs.Ytfenikoajadiaaa
