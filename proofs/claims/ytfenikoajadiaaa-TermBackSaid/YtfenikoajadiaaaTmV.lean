/-
  Layer 5: term.Decode, where it goes well, walked. Conditions: bytes.
-/
import Derived.Test.YtfenikoajadiaaaTmU
import Derived.Defers
import Derived.Recover
namespace Go.Proofs.Ytfenikoajadiaaa
open Go Go.RowKit
set_option linter.unusedSimpArgs false
set_option linter.unusedVariables false


theorem clo_idle (p q r : Addr) (w : World) :
    CallsD Try.prog 42 #[.pointer (some p), .pointer (some q), .pointer (some r)] .returning w fun e u' w' => e = .returned (.tuple #[]) ∧ u' = .returning ∧ w' = w := by
  refine callsD_of_wpS Try.func42 rfl fun c₀ cs hu => ?_
  apply wpS_seq
  apply wpS_region
  simp [wpOpsS, go_sem, recoverD, hu, Try.ntmps42, Exit.thenS]
  apply wpS_seq
  apply wpS_region
  simp [wpOpsS, go_sem, Exit.thenS]
  refine wpS_cond (t := false) (by simp [Act.eval, Array.replicate]) ?_
  simp only [Bool.false_eq_true, if_false]
  refine wpS_of_wp (wp_skip ?_)
  cases c₀
  simp_all [bodyPostS, results, Try.results42]


theorem Try.zeroEr : ∀ w, (zeroValue 28).run Try.prog w = .ok (.int .i64 0) w := fun w => by kernel_rfl
theorem Try.sizeEr1 : (Try.prog.info? 28).map (·.size) = some 1 := by kernel_rfl
theorem wpList_alloc_er (w : World) {ops : Array Oper} {rest : List Oper} {o : Oper} {a : Act} {Q : Exit → Act → World → Prop} (hgd : o.guard = none) (ho : o.op = .alloc 28)
    (h : ∀ w', Blk w' w.heap.size 28 [.int .i64 0] → Below w.heap.size w w' → w'.heap.size = w.heap.size + 1 → wpList Try.prog ops Q rest (a.put o.dst (.pointer (some ⟨w.heap.size, 0, none⟩))) w') : wpList Try.prog ops Q (o :: rest) a w := by
  refine wpList_plain hgd fun K hK => ?_
  have hrun : (execOp a.eval o).run Try.prog w = .ok (.value (.pointer (some ⟨w.heap.size, 0, none⟩))) (w.alloc (.cells [Value.int .i64 0].toArray 28)) := by
    simp [execOp, ho, Instr.alloc, Try.zeroEr, Result.andThen, run_newVar', Value.cells]
  unfold Oper.wp
  rw [hrun]
  exact hK _ _ (h _ (Blk.new w _ _) ((Below.refl _ _).alloc (Nat.le_refl _) _) (World.size_alloc _ _))
theorem Try.buildRd (p : Option Addr) (l : Int) : ∀ w, (Instr.build 64 #[(0, .pointer p), (1, .int .i64 l)]).run Try.prog w = .ok (.agg #[.pointer p, .int .i64 l]) w := fun w => by kernel_rfl
theorem wpList_buildRd {ops : Array Oper} {rest : List Oper} {op : Oper} {a : Act} {w : World} {Q : Exit → Act → World → Prop} (hgd : op.guard = none) (x0 : Operand) (l : Int) (ho : op.op = .build 64 #[(0, x0), (1, .const (.int .i64 l))])
    (p : Option Addr) (h0 : a.eval x0 = .pointer p) (h : wpList Try.prog ops Q rest (a.put op.dst (.agg [.pointer p, .int .i64 l].toArray)) w) : wpList Try.prog ops Q (op :: rest) a w := by
  refine wpList_plain hgd fun K hK => ?_
  have hrun : (execOp a.eval op).run Try.prog w = .ok (.value (.agg [.pointer p, .int .i64 l].toArray)) w := by
    unfold execOp
    simp only [ho]
    have hc : ∀ v, a.eval (.const v) = v := fun _ => rfl
    rw [show (#[((0 : Nat), x0), (1, .const (.int .i64 l))].map fun (i, x) => (i, a.eval x)) = #[(0, .pointer p), (1, .int .i64 l)] by simp [h0, hc]]
    simp [Try.buildRd, Result.andThen]
  unfold Oper.wp
  rw [hrun]
  exact hK _ _ h
theorem load_int {w : World} {g : Nat} {e : TypeId} {x : Int} (h : Blk w g e [.int .i64 x]) : (loadVar 3 ⟨g, 0, none⟩).run Try.prog w = .ok (.int .i64 x) w := by
  have hc := h.cell 0
  simp only [List.getElem?_cons_zero] at hc
  simp [loadVar, run_underlying Try.underlying3, go_sem, hc]
theorem load_er {w : World} {g : Nat} {e : TypeId} {x : Int} (h : Blk w g e [.int .i64 x]) : (loadVar 28 ⟨g, 0, none⟩).run Try.prog w = .ok (.int .i64 x) w := by
  have hc := h.cell 0
  simp only [List.getElem?_cons_zero] at hc
  simp [loadVar, run_underlying Try.underlying28, go_sem, hc]
theorem results_ccc {P : Program} {fn : Func} {p q r : Tmp} {ty ty2 ty3 : TypeId} (h : fn.results = #[.cell p ty, .cell q ty2, .cell r ty3]) (tmps : Array Value) (w : World) (g g2 g3 : Nat) (v v2 v3 : Value) (hp : tmps.getD p undef = .pointer (some ⟨g, 0, none⟩)) (hq : tmps.getD q undef = .pointer (some ⟨g2, 0, none⟩)) (hr : tmps.getD r undef = .pointer (some ⟨g3, 0, none⟩))
    (h1 : (loadVar ty ⟨g, 0, none⟩).run P w = .ok v w) (h2 : (loadVar ty2 ⟨g2, 0, none⟩).run P w = .ok v2 w) (h3 : (loadVar ty3 ⟨g3, 0, none⟩).run P w = .ok v3 w) : (results fn tmps).run P w = .ok (.tuple #[v, v2, v3]) w := by
  simp only [Array.getD_eq_getD_getElem?] at hp hq hr
  simp [results, h, hp, hq, hr, asAddr, h1, h2, h3, Result.andThen]
/-- what Decode answers, where it goes well -/
def DecP (w : World) (t : Tm) (e : Ending) (w' : World) : Prop := ∃ cs, e = .returned (.tuple #[.agg cs.toArray, .int .i64 (bytesT t).length, .int .i64 0]) ∧ TmC (w.heap.size ≤ ·) w' cs t ∧ Below w.heap.size w w'
structure DeI (w : World) (g2 g3 g4 : Nat) (C2 : List Value) (x3 x4 : Int) (W : World) : Prop where
  r2 : Blk W g2 24 C2
  r3 : Blk W g3 3 [.int .i64 x3]
  r4 : Blk W g4 28 [.int .i64 x4]
  bel : Below w.heap.size w W
theorem DeI.low {w W W' : World} {g2 g3 g4 : Nat} {C2 : List Value} {x3 x4 : Int} (h : DeI w g2 g3 g4 C2 x3 x4 W) (hb : Below W.heap.size W W') : DeI w g2 g3 g4 C2 x3 x4 W' := ⟨h.r2.below hb h.r2.lt, h.r3.below hb h.r3.lt, h.r4.below hb h.r4.lt, below_thn h.bel hb (Nat.le_refl _)⟩
theorem DeI.ch {w W W' : World} {g2 g3 g4 : Nat} {C2 : List Value} {x3 x4 : Int} {S : Nat → Prop} (h : DeI w g2 g3 g4 C2 x3 x4 W) (hc : Ch S W W') (h2 : ¬ S g2) (h3 : ¬ S g3) (h4 : ¬ S g4) (hS : ∀ k, S k → w.heap.size ≤ k) : DeI w g2 g3 g4 C2 x3 x4 W' := ⟨h.r2.keep hc h2, h.r3.keep hc h3, h.r4.keep hc h4, below_ch h.bel hc (Nat.le_refl _) hS⟩


set_option maxRecDepth 100000 in
set_option maxHeartbeats 8000000 in
theorem decode_ok (t : Tm) (rest : List Int) (v : Value) (N : Nat) (w : World) (hs : sizeT t ≠ 0) (hv : Sl w v (ofK .u8 (bytesT t ++ rest))) (hAB : AllB rest) (hN : (bytesT t ++ rest).length = N) (hlen : N ≤ 1000000) : Calls Try.prog 11 #[v] w (DecP w t) := by
  have hmf : ∀ (fn : Fn) (first cap : Array Value) (w : World), (Instr.makeFunc fn first cap).run Try.prog w = .ok (.func fn first cap) w := fun _ _ _ _ => rfl
  have HWK := Lib.hid (sizeT_ok.1 hs)
  have HV := Lib.hid hv
  have HA := Lib.hid hAB
  have HN := Lib.hid hN
  obtain ⟨ao, c, rfl, hc1, hc2, -⟩ := hv.nums
  rw [hN] at HV hc1 ⊢
  have HE := Lib.hid (show (N : Int) - (rest.length : Int) = ((bytesT t).length : Int) from by rw [← hN, List.length_append]; omega)
  have HLE := Lib.hid hlen
  have hlr : rest.length ≤ N := by rw [← hN, List.length_append]; omega
  have hw : IntKind.i64.wrap ((N : Int) - (rest.length : Int)) = (N : Int) - (rest.length : Int) := by rw [IntKind.wrap_i64]; omega
  have HWR := Lib.hid hw
  clear hs hv hAB hN hw
  go_enter_defers Try.func11, Try.ntmps11
  go_wp2_with (first
    | ((with_reducible refine wpList_alloc_blk w rfl 24 rfl (tmC 0 0 0 ⟨#[]⟩ (.slice none 0 0)) Try.zeroTm ?_); intro a1 hb hbel hsz; have H1 := Lib.hid (And.intro hb hbel); clear hb hbel hsz)
    | ((with_reducible refine wpList_alloc_int a1 rfl rfl ?_); intro a2 hb hbel hsz; have H2 := Lib.hid (And.intro hb hbel); clear hb hbel hsz)
    | ((with_reducible refine wpList_alloc_er a2 rfl rfl ?_); intro a3 hb hbel hsz; have D3 : DeI w w.heap.size a1.heap.size a2.heap.size (tmC 0 0 0 ⟨#[]⟩ (.slice none 0 0)) (0) (0) a3 := ⟨(H1.out.1.below H2.out.2 H1.out.1.lt).below hbel (by have := H2.out.1.lt; have := H1.out.1.lt; omega), H2.out.1.below hbel H2.out.1.lt, hb, below_thn (below_thn H1.out.2 H2.out.2 (Nat.le_refl _)) hbel (Nat.le_refl _)⟩; clear hb hbel hsz))
  have HG := Lib.hid (show w.heap.size < a1.heap.size ∧ a1.heap.size < a2.heap.size ∧ a2.heap.size < a3.heap.size from ⟨H1.out.1.lt, H2.out.1.lt, D3.r4.lt⟩)
  refine (read_any (.slice ao N c) (bytesT t ++ rest) a3 (HV.out.below D3.bel (Nat.le_refl _)) (by have := HN.out; have := HLE.out; omega)).mono ?_
  rintro e' a4 ⟨b, rr, rfl, hb1, hb2, hr1, hr2, hrd, hbel⟩
  have D4 := D3.low hbel
  have HR := Lib.hid (And.intro hrd (And.intro hb1 (And.intro hb2 (And.intro hr1 hr2))))
  clear hrd hbel hb1 hb2 hr1 hr2 D3 H1 H2
  go_wp2_with (first
    | ((with_reducible refine wpList_buildRd rfl (.tmp 7) 1200 rfl (some ⟨b, 0, none⟩) rfl ?_))
    | ((with_reducible refine wpList_box_blk a4 rfl 64 (.tmp 8) rfl [.pointer (some ⟨b, 0, none⟩), .int .i64 1200] rfl ?_); intro a5 hb hbel hsz; have D5 := D4.low hbel; have HR5 := Lib.hid (show Rd a5 b rr (bytesT t ++ rest) 0 ∧ Blk a5 a4.heap.size 64 [.pointer (some ⟨b, 0, none⟩), .int .i64 1200] from ⟨HR.out.1.keep (Ch.of_below (S := fun _ => False) hbel (Nat.le_refl _)) (fun h => h) (fun h => h), hb⟩); clear hb hbel hsz))
  refine (term_ok t rest 1 1200 a4.heap.size b rr a5 HWK.out HR5.out.1 HR5.out.2 (by have := HR.out.2.2.1; omega) (by have := HR.out.2.2.2.2; omega) (by have := HR.out.2.2.2.2; have := HR5.out.2.lt; omega) HA.out (by have := HN.out; have := HLE.out; omega) (by omega) (by omega) (by omega) (by omega)).mono ?_
  rintro e' a6 ⟨cs, rfl, htm, hrd, hR, hc⟩
  have D6 := D5.ch hc (by have := HG.out; have := HR.out; omega) (by have := HG.out; have := HR.out; omega) (by have := HG.out; have := HR.out; omega) (fun k hk => by have := HG.out; have := HR.out; omega)
  have HT6 := Lib.hid (show TmC (a5.heap.size ≤ ·) a6 cs t ∧ Rd a6 b rr rest 0 ∧ Blk a6 a4.heap.size 64 [.pointer (some ⟨b, 0, none⟩), .int .i64 (walkM t 1 1200).2] ∧ a5.heap.size ≤ a6.heap.size from ⟨htm, hrd, hR, hc.size⟩)
  clear htm hrd hR hc
  obtain ⟨oj, pj, rfl, -, -, -⟩ := HT6.out.1.shape
  go_wp2_with (first
    | ((with_reducible refine wpList_store_blk a6 rfl 24 (.tmp 2) (.tmp 12) rfl w.heap.size 24 (tmC 0 0 0 ⟨#[]⟩ (.slice none 0 0)) (tmC t.k t.u t.n t.s (.slice oj t.ks.length pj)) D6.r2 rfl rfl rfl (tmC_info _ _ _ _ _) (tmC_one _ _ _ _ _ _ _) ?_); intro a7 hb hc hs; have D7 : DeI w w.heap.size a1.heap.size a2.heap.size (tmC t.k t.u t.n t.s (.slice oj t.ks.length pj)) (0) (0) a7 := ⟨hb, D6.r3.keep hc (fun e => by have e : a1.heap.size = w.heap.size := e; have := HG.out; omega), D6.r4.keep hc (fun e => by have e : a2.heap.size = w.heap.size := e; have := HG.out; omega), below_ch D6.bel hc (Nat.le_refl _) (fun k hk => by have e : k = w.heap.size := hk; omega)⟩; have HT7 := Lib.hid (show TmC (a5.heap.size ≤ ·) a7 (tmC t.k t.u t.n t.s (.slice oj t.ks.length pj)) t ∧ Rd a7 b rr rest 0 ∧ Blk a7 a4.heap.size 64 [.pointer (some ⟨b, 0, none⟩), .int .i64 (walkM t 1 1200).2] from ⟨HT6.out.1.keep hc (fun k hk e => by have e : k = w.heap.size := e; have hk : a5.heap.size ≤ k := hk; have := D5.r2.lt; omega), HT6.out.2.1.keep hc (fun e => by have e : b = w.heap.size := e; have := HG.out; have := HR.out; omega) (fun e => by have e : rr = w.heap.size := e; have := HG.out; have := HR.out; omega), HT6.out.2.2.1.keep hc (fun e => by have e : a4.heap.size = w.heap.size := e; have := D4.r2.lt; omega)⟩); clear hb hc hs))
  have H7 := And.intro D7 HT7.out
  go_wp2_with fail
  refine wp_region_marked (fun w' => w'.rangeAt w.heap.size 0 (tmC t.k t.u t.n t.s (.slice oj t.ks.length pj)) ∧ w'.cell? ⟨a4.heap.size, 0, none⟩ = some (.pointer (some ⟨b, 0, none⟩))) 10 [0, 1, 2, 3, 4, 5, 6] 5 (by kernel_rfl) rfl (by kernel_rfl) (by kernel_rfl) ⟨rangeW_blk H7.1.r2, H7.2.2.2.cell 0⟩ ?_
  iterate 7 (refine' HeldL.run ?_ ?_ ?_ ?_; rotate_left 2; (simp only [List.getElem?_toArray, List.getElem?_cons_zero, List.getElem?_cons_succ]; rfl); rfl; (rintro w' ⟨k0, k1⟩; first | (go_simp; with_reducible rfl) | exact exec_load_mid rfl rfl k0 Try.underlying24 rfl (tmC_info _ _ _ _ _)); simp only [Act.put, List.setIfInBounds_toArray, List.set_cons_zero, List.set_cons_succ])
  have sm := (Sm.refl a7).drew
  have HV2 := And.intro (H7.1.low (sm.below _)) (show TmC (a5.heap.size ≤ ·) a7.drew (tmC t.k t.u t.n t.s (.slice oj t.ks.length pj)) t ∧ Rd a7.drew b rr rest 0 ∧ Blk a7.drew a4.heap.size 64 [.pointer (some ⟨b, 0, none⟩), .int .i64 (walkM t 1 1200).2] from ⟨H7.2.1.below (sm.below _), H7.2.2.1.keep (Ch.of_below (S := fun _ => False) (sm.below _) (Nat.le_refl _)) (fun h => h) (fun h => h), H7.2.2.2.below (sm.below _) H7.2.2.2.lt⟩)
  clear sm
  generalize a7.drew = v1 at HV2 ⊢
  refine' wpAnyM_one 7 (by kernel_rfl) ?_ ?_; rotate_left; (simp only [List.getElem?_toArray, List.getElem?_cons_zero, List.getElem?_cons_succ]; rfl)
  try simp only [Act.put]
  go_wp2_with fail
  refine (left_any b rr rest 0 v1 HV2.2.2.1).mono ?_
  rintro e' w' ⟨rfl, rfl⟩
  go_wp2_with fail
  refine QK.normal ⟨fun _ => ⟨rangeW_blk HV2.1.r2, HV2.2.2.2.cell 0⟩, ?_⟩
  refine wpAnyM_take0 (by kernel_rfl) noPanic_any (fuel := 3) (fun _ => ⟨rangeW_blk HV2.1.r2, HV2.2.2.2.cell 0⟩) 8 (by kernel_rfl) ?_
  refine' HeldL.run ?_ ?_ ?_ ?_; rotate_left 2; (simp only [List.getElem?_toArray, List.getElem?_cons_zero, List.getElem?_cons_succ]; rfl); rfl; (rintro w' -; go_simp; with_reducible rfl); simp only [Act.put, List.setIfInBounds_toArray, List.set_cons_zero, List.set_cons_succ]
  refine' wpAnyM_one 9 (by kernel_rfl) ?_ ?_; rotate_left; (simp only [List.getElem?_toArray, List.getElem?_cons_zero, List.getElem?_cons_succ]; rfl)
  refine wpList_store_blk v1 rfl 24 (.tmp 2) (.tmp 13) rfl w.heap.size 24 (tmC t.k t.u t.n t.s (.slice oj t.ks.length pj)) (tmC t.k t.u t.n t.s (.slice oj t.ks.length pj)) HV2.1.r2 rfl rfl rfl (tmC_info _ _ _ _ _) (tmC_one _ _ _ _ _ _ _) ?_
  intro z3 hb hc hs
  have H4 := And.intro (show DeI w w.heap.size a1.heap.size a2.heap.size (tmC t.k t.u t.n t.s (.slice oj t.ks.length pj)) (0) (0) z3 from ⟨hb, HV2.1.r3.keep hc (fun e => by have e : a1.heap.size = w.heap.size := e; have := HG.out; omega), HV2.1.r4.keep hc (fun e => by have e : a2.heap.size = w.heap.size := e; have := HG.out; omega), below_ch HV2.1.bel hc (Nat.le_refl _) (fun k hk => by have e : k = w.heap.size := hk; have := HG.out; omega)⟩) (show TmC (a5.heap.size ≤ ·) z3 (tmC t.k t.u t.n t.s (.slice oj t.ks.length pj)) t ∧ Rd z3 b rr rest 0 ∧ Blk z3 a4.heap.size 64 [.pointer (some ⟨b, 0, none⟩), .int .i64 (walkM t 1 1200).2] from ⟨HV2.2.1.keep hc (fun k hk e => by have e : k = w.heap.size := e; have hk : a5.heap.size ≤ k := hk; have := HG.out; have := HR.out; have := HR5.out.2.lt; omega), HV2.2.2.1.keep hc (fun e => by have e : b = w.heap.size := e; have := HG.out; have := HR.out; omega) (fun e => by have e : rr = w.heap.size := e; have := HG.out; have := HR.out; omega), HV2.2.2.2.keep hc (fun e => by have e : a4.heap.size = w.heap.size := e; have := HG.out; have := HR.out; omega)⟩)
  clear hb hc hs
  try simp only [Act.put, List.setIfInBounds_toArray, List.set_cons_zero, List.set_cons_succ]
  refine QK.normal ⟨fun _ => ⟨rangeW_blk H4.1.r2, H4.2.2.2.cell 0⟩, ?_⟩
  refine' wpAnyM_one 10 (by kernel_rfl) ?_ ?_; rotate_left; (simp only [List.getElem?_toArray, List.getElem?_cons_zero, List.getElem?_cons_succ]; rfl)
  refine wpList_store1 z3 rfl 3 (.tmp 3) (.tmp 21) rfl a1.heap.size 0 3 [.int .i64 0] H4.1.r3 rfl (.int .i64 ((N : Int) - (rest.length : Int))) (congrArg (Value.int IntKind.i64) HWR.out) (by simp) Try.sizeInt1 rfl rfl ?_
  intro z5 hb hc hs
  have H6 := And.intro (show DeI w w.heap.size a1.heap.size a2.heap.size (tmC t.k t.u t.n t.s (.slice oj t.ks.length pj)) ((N : Int) - (rest.length : Int)) (0) z5 from ⟨H4.1.r2.keep hc (fun e => by have e : w.heap.size = a1.heap.size := e; have := HG.out; omega), hb, H4.1.r4.keep hc (fun e => by have e : a2.heap.size = a1.heap.size := e; have := HG.out; omega), below_ch H4.1.bel hc (Nat.le_refl _) (fun k hk => by have e : k = a1.heap.size := hk; have := HG.out; omega)⟩) (show TmC (a5.heap.size ≤ ·) z5 (tmC t.k t.u t.n t.s (.slice oj t.ks.length pj)) t ∧ Rd z5 b rr rest 0 ∧ Blk z5 a4.heap.size 64 [.pointer (some ⟨b, 0, none⟩), .int .i64 (walkM t 1 1200).2] from ⟨H4.2.1.keep hc (fun k hk e => by have e : k = a1.heap.size := e; have hk : a5.heap.size ≤ k := hk; have := HG.out; have := HR.out; have := HR5.out.2.lt; omega), H4.2.2.1.keep hc (fun e => by have e : b = a1.heap.size := e; have := HG.out; have := HR.out; omega) (fun e => by have e : rr = a1.heap.size := e; have := HG.out; have := HR.out; omega), H4.2.2.2.keep hc (fun e => by have e : a4.heap.size = a1.heap.size := e; have := HG.out; have := HR.out; omega)⟩)
  clear hb hc hs
  try simp only [Act.put, List.setIfInBounds_toArray, List.set_cons_zero, List.set_cons_succ]
  refine QK.normal ⟨fun h => absurd h (by decide), ?_⟩
  refine' wpAnyM_one 11 (by kernel_rfl) ?_ ?_; rotate_left; (simp only [List.getElem?_toArray, List.getElem?_cons_zero, List.getElem?_cons_succ]; rfl)
  refine wpList_store1 z5 rfl 28 (.tmp 4) (.const (.int .i64 0)) rfl a2.heap.size 0 28 [.int .i64 0] H6.1.r4 rfl (.int .i64 0) rfl (by simp) Try.sizeEr1 rfl rfl ?_
  intro z7 hb hc hs
  have H8 := And.intro (show DeI w w.heap.size a1.heap.size a2.heap.size (tmC t.k t.u t.n t.s (.slice oj t.ks.length pj)) ((N : Int) - (rest.length : Int)) (0) z7 from ⟨H6.1.r2.keep hc (fun e => by have e : w.heap.size = a2.heap.size := e; have := HG.out; omega), H6.1.r3.keep hc (fun e => by have e : a1.heap.size = a2.heap.size := e; have := HG.out; omega), hb, below_ch H6.1.bel hc (Nat.le_refl _) (fun k hk => by have e : k = a2.heap.size := hk; have := HG.out; omega)⟩) (show TmC (a5.heap.size ≤ ·) z7 (tmC t.k t.u t.n t.s (.slice oj t.ks.length pj)) t ∧ Rd z7 b rr rest 0 ∧ Blk z7 a4.heap.size 64 [.pointer (some ⟨b, 0, none⟩), .int .i64 (walkM t 1 1200).2] from ⟨H6.2.1.keep hc (fun k hk e => by have e : k = a2.heap.size := e; have hk : a5.heap.size ≤ k := hk; have := HG.out; have := HR.out; have := HR5.out.2.lt; omega), H6.2.2.1.keep hc (fun e => by have e : b = a2.heap.size := e; have := HG.out; have := HR.out; omega) (fun e => by have e : rr = a2.heap.size := e; have := HG.out; have := HR.out; omega), H6.2.2.2.keep hc (fun e => by have e : a4.heap.size = a2.heap.size := e; have := HG.out; have := HR.out; omega)⟩)
  clear hb hc hs
  try simp only [Act.put, List.setIfInBounds_toArray, List.set_cons_zero, List.set_cons_succ]
  refine QK.normal ⟨fun h => absurd h (by decide), ?_⟩
  refine wpAnyM_done (by kernel_rfl) ?_ _
  refine NoPanic.normal ?_
  go_wp2_with fail
  refine leaves_cons (f := 42) (args := #[.pointer (some ⟨w.heap.size, 0, none⟩), .pointer (some ⟨a1.heap.size, 0, none⟩), .pointer (some ⟨a2.heap.size, 0, none⟩)]) (by simp) (by simp [go_sem]) ?_
  refine (clo_idle ⟨w.heap.size, 0, none⟩ ⟨a1.heap.size, 0, none⟩ ⟨a2.heap.size, 0, none⟩ z7).mono ?_
  rintro e u' w'' ⟨rfl, rfl, rfl⟩
  refine ⟨_, results_ccc Try.results11 _ _ w.heap.size a1.heap.size a2.heap.size _ _ _ rfl rfl rfl (run_loadVar_mid (P := Try.prog) _ w.heap.size 0 24 (tmC t.k t.u t.n t.s (.slice oj t.ks.length pj)) _ (rangeW_blk H8.1.r2) Try.underlying24 rfl (tmC_info _ _ _ _ _)) (load_int H8.1.r3) (load_er H8.1.r4), ?_⟩
  refine ⟨_, by rw [← HE.out], H8.2.1.mono (fun k hk => by have hk : a5.heap.size ≤ k := hk; have := D5.r2.lt; omega), H8.1.bel⟩


end Go.Proofs.Ytfenikoajadiaaa
