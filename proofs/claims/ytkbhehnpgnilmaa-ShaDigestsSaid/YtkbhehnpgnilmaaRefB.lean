/-
  The reference's Block, walked. Conditions: eight numbers of 32 bits, a block of 64 bytes, the constants.
-/
import Derived.Test.YtkbhehnpgnilmaaRefX
namespace Go.Proofs.Ytkbhehnpgnilmaa
open Go Go.RowKit

theorem rowX_32 {hs : List Nat} (bs : List Int) (h : hs.length = 8) (h32 : All32 hs) : ∀ t, t ≤ 64 → All32 (rowX hs bs t)
  | 0, _ => by rw [rowX_zero bs h]; exact h32
  | t + 1, ht => by
    have ih := rowX_32 bs h h32 t (by omega)
    rw [rowX_succ bs t h (by omega)]
    intro x hx
    simp only [List.mem_cons, List.not_mem_nil, or_false] at hx
    rcases hx with rfl | rfl | rfl | rfl | rfl | rfl | rfl | rfl
    · exact add32_lt _ _
    · exact ih.getD _
    · exact ih.getD _
    · exact ih.getD _
    · exact add32_lt _ _
    · exact ih.getD _
    · exact ih.getD _
    · exact ih.getD _

theorem fresh_chB {w w' : World} {o : Obj} (h : Ch (· = w.heap.size) (w.alloc o) w') : Below w.heap.size w w' :=
  below_ch ((Below.refl _ w).alloc (Nat.le_refl _) o) h (Nat.le_refl _) (fun k h => by have h2 : k = w.heap.size := h; omega)

set_option maxRecDepth 100000 in
set_option maxHeartbeats 2000000 in
theorem rblock_any (v : Value) (hs : List Nat) (bs : List Int) (K : List Nat) (w : World) (hs1 : Sl w v (ofK .u8 bs)) (hl : bs.length = 64) (ha : AllB bs) (hh : hs.length = 8) (h32 : All32 hs) (hK : K = K64) :
    Calls Try.prog 46 #[.agg (ofN hs).toArray, v, .agg (ofN K).toArray] w (fun e w' => e = .returned (.agg (ofN (blockN hs bs)).toArray) ∧ Below w.heap.size w w') := by
  have H := Lib.hid (And.intro hl (And.intro ha (And.intro hh (And.intro h32 hK))))
  have HV := Lib.hid hs1
  obtain ⟨ao, c, rfl, -⟩ := hs1.nums
  have HKl := Lib.hid (show K.length = 64 ∧ All32 K from by rw [hK]; exact ⟨by decide, by unfold All32; decide⟩)
  have HI := Lib.hid (show ∀ xs : List Nat, xs.length = 8 → (Try.prog.info? 42).map (·.size) = some (ofN xs).length from fun xs hx => by rw [ofN_length, hx]; kernel_rfl)
  have HZ1 := Lib.hid (show ∀ xs : List Nat, xs.length = 8 → (ofN xs).length = ([.int .u32 0, .int .u32 0, .int .u32 0, .int .u32 0, .int .u32 0, .int .u32 0, .int .u32 0, .int .u32 0] : List Value).length from fun xs hx => by rw [ofN_length, hx]; rfl)
  have HB := Lib.hid (show Blk (((w.alloc (.cells (ofN hs).toArray 42)).alloc (.cells (ofN K).toArray 46)).alloc (.cells #[.int .u32 0, .int .u32 0, .int .u32 0, .int .u32 0, .int .u32 0, .int .u32 0, .int .u32 0, .int .u32 0] 42)) w.heap.size 42 (ofN hs) ∧ Blk (((w.alloc (.cells (ofN hs).toArray 42)).alloc (.cells (ofN K).toArray 46)).alloc (.cells #[.int .u32 0, .int .u32 0, .int .u32 0, .int .u32 0, .int .u32 0, .int .u32 0, .int .u32 0, .int .u32 0] 42)) (w.heap.size + 1) 46 (ofN K) ∧ Blk (((w.alloc (.cells (ofN hs).toArray 42)).alloc (.cells (ofN K).toArray 46)).alloc (.cells #[.int .u32 0, .int .u32 0, .int .u32 0, .int .u32 0, .int .u32 0, .int .u32 0, .int .u32 0, .int .u32 0] 42)) (w.heap.size + 1 + 1) 42 (ofN [0, 0, 0, 0, 0, 0, 0, 0]) ∧ Below w.heap.size w (((w.alloc (.cells (ofN hs).toArray 42)).alloc (.cells (ofN K).toArray 46)).alloc (.cells #[.int .u32 0, .int .u32 0, .int .u32 0, .int .u32 0, .int .u32 0, .int .u32 0, .int .u32 0, .int .u32 0] 42)) ∧ (((w.alloc (.cells (ofN hs).toArray 42)).alloc (.cells (ofN K).toArray 46)).alloc (.cells #[.int .u32 0, .int .u32 0, .int .u32 0, .int .u32 0, .int .u32 0, .int .u32 0, .int .u32 0, .int .u32 0] 42)).heap.size = w.heap.size + 3 from by
    have h1 := Blk.new w (ofN hs) 42
    have h2 := Blk.new (w.alloc (.cells (ofN hs).toArray 42)) (ofN K) 46
    have h3 := Blk.new ((w.alloc (.cells (ofN hs).toArray 42)).alloc (.cells (ofN K).toArray 46)) (ofN [0, 0, 0, 0, 0, 0, 0, 0]) 42
    rw [World.size_alloc] at h2
    rw [World.size_alloc, World.size_alloc] at h3
    exact ⟨(h1.alloc _).alloc _, h2.alloc _, h3, ((((Below.refl _ w).alloc (Nat.le_refl _) _).alloc (by simp) _).alloc (by simp; omega) _), by simp [World.size_alloc]⟩)
  clear hs1 hl ha hh h32 hK
  go_enter Try.func46, Try.ntmps46
  go_upto_region 1 with fail
  generalize (((w.alloc (.cells (ofN hs).toArray 42)).alloc (.cells (ofN K).toArray 46)).alloc (.cells #[.int .u32 0, .int .u32 0, .int .u32 0, .int .u32 0, .int .u32 0, .int .u32 0, .int .u32 0, .int .u32 0] 42)) = w1 at HB ⊢
  obtain ⟨s1, hs1⟩ : ∃ s, s = w.heap.size + 1 := ⟨_, rfl⟩
  obtain ⟨s2, hs2⟩ : ∃ s, s = s1 + 1 := ⟨_, rfl⟩
  rw [← hs1, ← hs2] at HB ⊢
  have HS := Lib.hid (And.intro hs1 hs2)
  clear hs1 hs2
  have HY := Lib.hid (Blk.new w1 [.int .u32 0, .int .u32 0, .int .u32 0, .int .u32 0, .int .u32 0, .int .u32 0, .int .u32 0, .int .u32 0] 42)
  go_upto_region 2 with (first
    | (with_reducible refine wpList_load_blk _ rfl 42 (.tmp 3) rfl w.heap.size 42 (ofN hs) HB.out.1 rfl _ Try.underlying42 rfl (HI.out _ H.out.2.2.1) ?_)
    | (with_reducible refine wpList_store_blk _ rfl 42 (.tmp 7) (.tmp 15) rfl w1.heap.size 42 [.int .u32 0, .int .u32 0, .int .u32 0, .int .u32 0, .int .u32 0, .int .u32 0, .int .u32 0, .int .u32 0] (ofN hs) HY.out rfl rfl (HZ1.out _ H.out.2.2.1) (HI.out _ H.out.2.2.1) (one_ofN _) ?_; intro w2 hb2 hch2 hsz2; clear hsz2))
  have hbel := fresh_chB hch2
  have HG2 := Lib.hid hb2
  have HW2 := Lib.hid (And.intro (HB.out.1.below hbel HB.out.1.lt) (And.intro (HB.out.2.1.below hbel HB.out.2.1.lt) (And.intro (HB.out.2.2.1.below hbel HB.out.2.2.1.lt) (below_thn HB.out.2.2.2.1 hbel (Nat.le_refl _)))))
  have HS3 := Lib.hid HB.out.2.2.2.2
  generalize w1.heap.size = g at HG2 HS3 hb2 ⊢
  clear hbel HB HY hch2 hb2
  go_wp2_with fail
  refine (words_any _ bs w2 (HV.out.below HW2.out.2.2.2 (Nat.le_refl _)) H.out.1 H.out.2.1).mono ?_
  rintro e w3 ⟨rfl, hbel⟩
  have HG3 := Lib.hid (HG2.out.below hbel HG2.out.lt)
  have HW3 := Lib.hid (And.intro (HW2.out.1.below hbel HW2.out.1.lt) (And.intro (HW2.out.2.1.below hbel HW2.out.2.1.lt) (And.intro (HW2.out.2.2.1.below hbel HW2.out.2.2.1.lt) (below_thn HW2.out.2.2.2 hbel (Nat.le_refl _)))))
  have HR0 := Lib.hid (rowX_zero bs H.out.2.2.1)
  obtain ⟨X, hX⟩ : ∃ X, X = wordsX bs 64 := ⟨_, rfl⟩
  rw [← hX]
  have HX := Lib.hid (And.intro hX (show X.length = 64 by rw [hX, wordsX_length]))
  clear hbel HG2 HW2 hX
  go_wp2_with fail
  go_loopw [18] (fun i wr => ∃ k : Nat, k ≤ 64 ∧ i = .int .i64 k ∧ Hid (Blk wr g 42 (ofN (rowX hs bs k))) ∧ Hid (Blk wr w.heap.size 42 (ofN hs) ∧ Blk wr s1 46 (ofN K) ∧ Blk wr s2 42 (ofN [0, 0, 0, 0, 0, 0, 0, 0]) ∧ Below w.heap.size w wr)) (fun i _ => 64 - (intOf i).toNat)
  case atStart => exact ⟨0, by omega, rfl, Lib.hid (by rw [HR0.out]; exact HG3.out), HW3⟩
  case round =>
    clear HG3 HW3 HR0
    obtain ⟨k, hk, rfl, HG, HW⟩ := hrel
    by_cases hlt : k < 64
    · have HSUC := Lib.hid (rowX_succ bs k H.out.2.2.1 hlt)
      have H32 := rowX_32 bs H.out.2.2.1 H.out.2.2.2.1 k hk
      have hrl := rowX_length hs bs k
      obtain ⟨r0, hr0⟩ : ∃ x, x = (rowX hs bs k).getD 0 0 := ⟨_, rfl⟩
      obtain ⟨r1, hr1⟩ : ∃ x, x = (rowX hs bs k).getD 1 0 := ⟨_, rfl⟩
      obtain ⟨r2, hr2⟩ : ∃ x, x = (rowX hs bs k).getD 2 0 := ⟨_, rfl⟩
      obtain ⟨r3, hr3⟩ : ∃ x, x = (rowX hs bs k).getD 3 0 := ⟨_, rfl⟩
      obtain ⟨r4, hr4⟩ : ∃ x, x = (rowX hs bs k).getD 4 0 := ⟨_, rfl⟩
      obtain ⟨r5, hr5⟩ : ∃ x, x = (rowX hs bs k).getD 5 0 := ⟨_, rfl⟩
      obtain ⟨r6, hr6⟩ : ∃ x, x = (rowX hs bs k).getD 6 0 := ⟨_, rfl⟩
      obtain ⟨r7, hr7⟩ : ∃ x, x = (rowX hs bs k).getD 7 0 := ⟨_, rfl⟩
      have b0 : r0 < 4294967296 := by rw [hr0]; exact H32.getD _
      have b1 : r1 < 4294967296 := by rw [hr1]; exact H32.getD _
      have b2 : r2 < 4294967296 := by rw [hr2]; exact H32.getD _
      have b3 : r3 < 4294967296 := by rw [hr3]; exact H32.getD _
      have b4 : r4 < 4294967296 := by rw [hr4]; exact H32.getD _
      have b5 : r5 < 4294967296 := by rw [hr5]; exact H32.getD _
      have b6 : r6 < 4294967296 := by rw [hr6]; exact H32.getD _
      have b7 : r7 < 4294967296 := by rw [hr7]; exact H32.getD _
      have hcl : ∀ i, i < 8 → wr.cell? ⟨g, i, none⟩ = some (.int .u32 (((rowX hs bs k).getD i 0 : Nat) : Int)) := fun i hi => cell_ofN HG.out i (by rw [hrl]; exact hi)
      have c0 := hcl 0 (by omega)
      rw [← hr0] at c0
      have c1 := hcl 1 (by omega)
      rw [← hr1] at c1
      have c2 := hcl 2 (by omega)
      rw [← hr2] at c2
      have c3 := hcl 3 (by omega)
      rw [← hr3] at c3
      have c4 := hcl 4 (by omega)
      rw [← hr4] at c4
      have c5 := hcl 5 (by omega)
      rw [← hr5] at c5
      have c6 := hcl 6 (by omega)
      rw [← hr6] at c6
      have c7 := hcl 7 (by omega)
      rw [← hr7] at c7
      obtain ⟨kt, hkt⟩ : ∃ x, x = K.getD k 0 := ⟨_, rfl⟩
      obtain ⟨wt, hwt⟩ : ∃ x, x = X.getD k 0 := ⟨_, rfl⟩
      have hck : wr.cell? ⟨s1, k, none⟩ = some (.int .u32 (kt : Int)) := by rw [hkt]; exact cell_ofN HW.out.2.1 k (by rw [HKl.out.1]; exact hlt)
      have hix : ∀ w : World, (Instr.index 46 (.agg (ofN X).toArray) (.int .i64 k)).run Try.prog w = .ok (.int .u32 (wt : Int)) w := fun w => run_index_arr Try.underlying46 (by omega) (by omega) (fun _ => by rfl) (fun _ => by rfl) _ (by
        rw [Int.toNat_natCast, List.getElem?_toArray, ofN_get _ _ (by rw [HX.out.2]; exact hlt), hwt, List.getD_eq_getElem?_getD, List.getElem?_eq_getElem (by rw [HX.out.2]; exact hlt)]; rfl)
      obtain ⟨e6, he6⟩ : ∃ x, x = rotN r4 6 := ⟨_, rfl⟩
      have qe6 : e6 < 4294967296 := by rw [he6]; exact rotN_lt _ b4
      have Te6 := fun w => rturn_any r4 6 e6 w b4 (by omega) he6.symm
      obtain ⟨e11, he11⟩ : ∃ x, x = rotN r4 11 := ⟨_, rfl⟩
      have qe11 : e11 < 4294967296 := by rw [he11]; exact rotN_lt _ b4
      have Te11 := fun w => rturn_any r4 11 e11 w b4 (by omega) he11.symm
      obtain ⟨e25, he25⟩ : ∃ x, x = rotN r4 25 := ⟨_, rfl⟩
      have qe25 : e25 < 4294967296 := by rw [he25]; exact rotN_lt _ b4
      have Te25 := fun w => rturn_any r4 25 e25 w b4 (by omega) he25.symm
      obtain ⟨a2, ha2⟩ : ∃ x, x = rotN r0 2 := ⟨_, rfl⟩
      have qa2 : a2 < 4294967296 := by rw [ha2]; exact rotN_lt _ b0
      have Ta2 := fun w => rturn_any r0 2 a2 w b0 (by omega) ha2.symm
      obtain ⟨a13, ha13⟩ : ∃ x, x = rotN r0 13 := ⟨_, rfl⟩
      have qa13 : a13 < 4294967296 := by rw [ha13]; exact rotN_lt _ b0
      have Ta13 := fun w => rturn_any r0 13 a13 w b0 (by omega) ha13.symm
      obtain ⟨a22, ha22⟩ : ∃ x, x = rotN r0 22 := ⟨_, rfl⟩
      have qa22 : a22 < 4294967296 := by rw [ha22]; exact rotN_lt _ b0
      have Ta22 := fun w => rturn_any r0 22 a22 w b0 (by omega) ha22.symm
      obtain ⟨e12, he12⟩ : ∃ x, x = e6 ^^^ e11 := ⟨_, rfl⟩
      obtain ⟨em, hem⟩ : ∃ x, x = e12 ^^^ e25 := ⟨_, rfl⟩
      obtain ⟨a12, ha12⟩ : ∃ x, x = a2 ^^^ a13 := ⟨_, rfl⟩
      obtain ⟨am, ham⟩ : ∃ x, x = a12 ^^^ a22 := ⟨_, rfl⟩
      have f1 : bits BinOp.xor IntKind.u32 (e6 : Int) (e11 : Int) = (e12 : Int) := by rw [bits_xor32 _ _ qe6 qe11, he12]
      have f2 : bits BinOp.xor IntKind.u32 (e12 : Int) (e25 : Int) = (em : Int) := by rw [bits_xor32 _ _ (by rw [he12]; exact xor_lt32 qe6 qe11) qe25, hem]
      have f3 : bits BinOp.xor IntKind.u32 (a2 : Int) (a13 : Int) = (a12 : Int) := by rw [bits_xor32 _ _ qa2 qa13, ha12]
      have f4 : bits BinOp.xor IntKind.u32 (a12 : Int) (a22 : Int) = (am : Int) := by rw [bits_xor32 _ _ (by rw [ha12]; exact xor_lt32 qa2 qa13) qa22, ham]
      obtain ⟨pk, hpk⟩ : ∃ x, x = r6 ^^^ (r4 &&& (r5 ^^^ r6)) := ⟨_, rfl⟩
      obtain ⟨mt, hmt⟩ : ∃ x, x = (r0 &&& r2) ||| (r1 &&& (r0 ||| r2)) := ⟨_, rfl⟩
      have TP := fun w => rpick_any r4 r5 r6 pk w b4 b5 b6 hpk.symm
      have TM := fun w => rmost_any r0 r1 r2 mt w b0 b1 b2 hmt.symm
      obtain ⟨p1, hp1⟩ : ∃ x, x = add32 r7 em := ⟨_, rfl⟩
      obtain ⟨p2, hp2⟩ : ∃ x, x = add32 p1 pk := ⟨_, rfl⟩
      obtain ⟨p3, hp3⟩ : ∃ x, x = add32 p2 kt := ⟨_, rfl⟩
      obtain ⟨p4, hp4⟩ : ∃ x, x = add32 p3 wt := ⟨_, rfl⟩
      obtain ⟨p5, hp5⟩ : ∃ x, x = add32 p4 am := ⟨_, rfl⟩
      obtain ⟨p6, hp6⟩ : ∃ x, x = add32 p5 mt := ⟨_, rfl⟩
      obtain ⟨p7, hp7⟩ : ∃ x, x = add32 r3 p4 := ⟨_, rfl⟩
      have g1 : IntKind.u32.wrap ((r7 : Int) + (em : Int)) = (p1 : Int) := by rw [u32_add, hp1]
      have g2 : IntKind.u32.wrap ((p1 : Int) + (pk : Int)) = (p2 : Int) := by rw [u32_add, hp2]
      have g3 : IntKind.u32.wrap ((p2 : Int) + (kt : Int)) = (p3 : Int) := by rw [u32_add, hp3]
      have g4 : IntKind.u32.wrap ((p3 : Int) + (wt : Int)) = (p4 : Int) := by rw [u32_add, hp4]
      have g5 : IntKind.u32.wrap ((p4 : Int) + (am : Int)) = (p5 : Int) := by rw [u32_add, hp5]
      have g6 : IntKind.u32.wrap ((p5 : Int) + (mt : Int)) = (p6 : Int) := by rw [u32_add, hp6]
      have g7 : IntKind.u32.wrap ((r3 : Int) + (p4 : Int)) = (p7 : Int) := by rw [u32_add, hp7]
      have hw3 : wX bs k = wt := by rw [hwt, HX.out.1, wordsX_at _ _ _ hlt, if_pos hlt]
      have HROW := Lib.hid (show rowX hs bs (k + 1) = [p6, r0, r1, r2, p7, r4, r5, r6] by
        have hS : sX (rowX hs bs k) (K64.getD k 0) (wX bs k) = p4 := by
          unfold sX mixN
          rw [← hr7, ← hr4, ← hr5, ← hr6, ← H.out.2.2.2.2, ← hkt, hw3, hp4, hp3, hp2, hp1, hpk, hem, he12, he6, he11, he25]
          rfl
        rw [HSUC.out, hS, ← hr0, ← hr1, ← hr2, ← hr3, ← hr4, ← hr5, ← hr6]
        unfold topX mixN
        rw [← hr0, ← hr1, ← hr2, hp7, hp6, hp5, ham, ha12, ha2, ha13, ha22, hmt]
        rfl)
      have hk0 : (k : Int) < 64 := by omega
      have hk1 : (0 : Int) ≤ (k : Int) := by omega
      have HR8 := Lib.hid hrl
      clear HSUC H32 hrl hcl hr0 hr1 hr2 hr3 hr4 hr5 hr6 hr7 b0 b1 b2 b3 b4 b5 b6 b7 hkt hwt he6 he11 he25 ha2 ha13 ha22 qe6 qe11 qe25 qa2 qa13 qa22 he12 hem ha12 ham hpk hmt hp1 hp2 hp3 hp4 hp5 hp6 hp7 hw3
      go_wp2_with fail
      go_quiet (fail)
      have hsm := (Sm.refl wr).drewN nq
      have c0 := (hsm.cell ⟨g, 0, none⟩).trans c0
      have c1 := (hsm.cell ⟨g, 1, none⟩).trans c1
      have c2 := (hsm.cell ⟨g, 2, none⟩).trans c2
      have c3 := (hsm.cell ⟨g, 3, none⟩).trans c3
      have c4 := (hsm.cell ⟨g, 4, none⟩).trans c4
      have c5 := (hsm.cell ⟨g, 5, none⟩).trans c5
      have c6 := (hsm.cell ⟨g, 6, none⟩).trans c6
      have c7 := (hsm.cell ⟨g, 7, none⟩).trans c7
      have hck := (hsm.cell ⟨s1, k, none⟩).trans hck
      have HG := Lib.hid (hsm.blk HG.out)
      have HW := Lib.hid (And.intro (hsm.blk HW.out.1) (And.intro (hsm.blk HW.out.2.1) (And.intro (hsm.blk HW.out.2.2.1) (HW.out.2.2.2.trans (hsm.below _)))))
      generalize wr.drewN nq = w5 at *
      clear hsm
      go_wp2_with fail
      go_quiet ((first | (go_at_call 101; first | (with_reducible exact Calls.quiet_of_same (Te6 _)) | (with_reducible exact Calls.quiet_of_same (Te11 _)) | (with_reducible exact Calls.quiet_of_same (Te25 _))) | (go_at_call 102; exact Calls.quiet_of_same (TP _))))
      have hsm := (Sm.refl w5).drewN nq
      have c0 := (hsm.cell ⟨g, 0, none⟩).trans c0
      have c1 := (hsm.cell ⟨g, 1, none⟩).trans c1
      have c2 := (hsm.cell ⟨g, 2, none⟩).trans c2
      have c3 := (hsm.cell ⟨g, 3, none⟩).trans c3
      have c4 := (hsm.cell ⟨g, 4, none⟩).trans c4
      have c5 := (hsm.cell ⟨g, 5, none⟩).trans c5
      have c6 := (hsm.cell ⟨g, 6, none⟩).trans c6
      have c7 := (hsm.cell ⟨g, 7, none⟩).trans c7
      have HG := Lib.hid (hsm.blk HG.out)
      have HW := Lib.hid (And.intro (hsm.blk HW.out.1) (And.intro (hsm.blk HW.out.2.1) (And.intro (hsm.blk HW.out.2.2.1) (HW.out.2.2.2.trans (hsm.below _)))))
      generalize w5.drewN nq = w6 at *
      clear hsm
      go_wp2_with fail
      go_quiet ((first | (go_at_call 101; first | (with_reducible exact Calls.quiet_of_same (Ta2 _)) | (with_reducible exact Calls.quiet_of_same (Ta13 _)) | (with_reducible exact Calls.quiet_of_same (Ta22 _))) | (go_at_call 103; exact Calls.quiet_of_same (TM _))))
      have hsm := (Sm.refl w6).drewN nq
      have c0 := (hsm.cell ⟨g, 0, none⟩).trans c0
      have c1 := (hsm.cell ⟨g, 1, none⟩).trans c1
      have c2 := (hsm.cell ⟨g, 2, none⟩).trans c2
      have c3 := (hsm.cell ⟨g, 3, none⟩).trans c3
      have c4 := (hsm.cell ⟨g, 4, none⟩).trans c4
      have c5 := (hsm.cell ⟨g, 5, none⟩).trans c5
      have c6 := (hsm.cell ⟨g, 6, none⟩).trans c6
      have c7 := (hsm.cell ⟨g, 7, none⟩).trans c7
      have HG := Lib.hid (hsm.blk HG.out)
      have HW := Lib.hid (And.intro (hsm.blk HW.out.1) (And.intro (hsm.blk HW.out.2.1) (And.intro (hsm.blk HW.out.2.2.1) (HW.out.2.2.2.trans (hsm.below _)))))
      generalize w6.drewN nq = w7 at *
      clear hsm
      have HL8 := Lib.hid (show (ofN [p6, r0, r1, r2, p7, r4, r5, r6]).length = (ofN (rowX hs bs k)).length by rw [ofN_length, ofN_length, HR8.out]; rfl)
      have HI8 := Lib.hid (HI.out [p6, r0, r1, r2, p7, r4, r5, r6] rfl)
      go_wp2_with (refine wpList_store_blk _ rfl 42 (.tmp 7) (.tmp 82) rfl g 42 (ofN (rowX hs bs k)) (ofN [p6, r0, r1, r2, p7, r4, r5, r6]) HG.out rfl rfl HL8.out HI8.out (one_ofN _) ?_; intro w8 hb8 hch8 hsz8; clear hsz8)
      have HG8 := Lib.hid hb8
      have HW8 := Lib.hid (And.intro (HW.out.1.keep hch8 (fun h => by have h1 := HS3.out; have h2 : w.heap.size = g := h; omega)) (And.intro (HW.out.2.1.keep hch8 (fun h => by have h1 := HS3.out; have h3 := HS.out; have h2 : s1 = g := h; omega)) (And.intro (HW.out.2.2.1.keep hch8 (fun h => by have h1 := HS3.out; have h3 := HS.out; have h2 : s2 = g := h; omega)) (below_ch HW.out.2.2.2 hch8 (Nat.le_refl _) (fun k h => by have h2 : k = g := h; have h1 := HS3.out; omega)))))
      clear hb8 hch8 HL8 HI8 c0 c1 c2 c3 c4 c5 c6 c7 f1 f2 f3 f4 g1 g2 g3 g4 g5 g6 g7 hix
      go_wp2_with fail
      go_roundw
      case rel => exact ⟨k + 1, by omega, by go_num, Lib.hid (by rw [HROW.out]; exact HG8.out), HW8⟩
      case measure => simp [intOf]; omega
    · obtain rfl : k = 64 := by omega
      obtain ⟨row, hrow⟩ : ∃ r, r = rowX hs bs 64 := ⟨_, rfl⟩
      have HRL := Lib.hid (show row.length = 8 by rw [hrow, rowX_length])
      have HFIN := Lib.hid (show addTo row hs 8 = blockN hs bs by rw [← rowX_all bs H.out.2.2.1, ← hrow]; rfl)
      rw [← hrow] at HG
      have HA0 := Lib.hid (addTo_zero (hs := row) (row := hs) HRL.out)
      clear hrow hlt hk HX HV
      go_wp2_with fail
      go_loopw [84] (fun i wr => ∃ k : Nat, k ≤ 8 ∧ i = .int .i64 k ∧ Hid (Blk wr g 42 (ofN (addTo row hs k))) ∧ Hid (Blk wr w.heap.size 42 (ofN hs) ∧ Blk wr s1 46 (ofN K) ∧ Blk wr s2 42 (ofN [0, 0, 0, 0, 0, 0, 0, 0]) ∧ Below w.heap.size w wr)) (fun i _ => 8 - (intOf i).toNat)
      case atStart => exact ⟨0, by omega, rfl, Lib.hid (by rw [HA0.out]; exact HG.out), HW⟩
      case round =>
        clear HG HW HA0
        obtain ⟨k, hk, rfl, HG, HW⟩ := hrel
        by_cases hlt : k < 8
        · obtain ⟨x, hx⟩ : ∃ x, x = row.getD k 0 := ⟨_, rfl⟩
          obtain ⟨y, hy⟩ : ∃ x, x = hs.getD k 0 := ⟨_, rfl⟩
          have hkl : k < (addTo row hs k).length := by rw [addTo_length]; exact hlt
          have hcx : wr.cell? ⟨g, k, none⟩ = some (.int .u32 (x : Int)) := by
            rw [cell_ofN HG.out k hkl, addTo_at _ _ _ _ hlt, if_neg (Nat.lt_irrefl k), hx]
          have hcy : wr.cell? ⟨w.heap.size, k, none⟩ = some (.int .u32 (y : Int)) := by
            rw [cell_ofN HW.out.1 k (by rw [H.out.2.2.1]; exact hlt), hy]
          obtain ⟨z, hz⟩ : ∃ z, z = add32 x y := ⟨_, rfl⟩
          have g1 : IntKind.u32.wrap ((x : Int) + (y : Int)) = (z : Int) := by rw [u32_add, hz]
          have HSET := Lib.hid (show (addTo row hs k).set k z = addTo row hs (k + 1) by rw [hz, hx, hy]; exact addTo_succ row hs k)
          have hgx := fun q => cell_grew hcx q
          have hgy := fun q => cell_grew hcy q
          have hk0 : (k : Int) < 8 := by omega
          have hk1 : (0 : Int) ≤ (k : Int) := by omega
          clear hx hy hz hcx hcy
          go_wp2_with fail
          refine wp_region_grew_tail 8 (by kernel_rfl) (by kernel_rfl) ?_
          simp only [List.take_succ_cons, List.take_zero, List.drop_succ_cons, List.drop_zero]
          repeat (first | go_big_quiet_skip | (go_big_quiet_want; go_big_quiet_op; go_big_quiet_on))
          refine wpQuiet_nil ?_
          intro w5 hw5
          obtain ⟨q, rfl⟩ := hw5
          have hbel := below_grew wr q
          have HG5 := Lib.hid (HG.out.below hbel HG.out.lt)
          have HW5 := Lib.hid (And.intro (HW.out.1.below hbel HW.out.1.lt) (And.intro (HW.out.2.1.below hbel HW.out.2.1.lt) (And.intro (HW.out.2.2.1.below hbel HW.out.2.2.1.lt) (below_thn HW.out.2.2.2 hbel (Nat.le_refl _)))))
          generalize grew wr q = w5 at HG5 HW5 ⊢
          have hcell := cell_ofN HG5.out k hkl
          have hfree := HG5.out.free k
          clear hbel HG HW hgx hgy
          go_wp2_with fail
          go_roundw
          case rel => exact ⟨k + 1, by omega, by go_num, Lib.hid (by
            have := HG5.out.set k (.int .u32 (z : Int))
            rw [ofN_set, HSET.out] at this
            exact this), Lib.hid (And.intro (HW5.out.1.keep (Ch.set _ _ _) (fun h => by have h1 := HS3.out; have h2 : w.heap.size = g := h; omega)) (And.intro (HW5.out.2.1.keep (Ch.set _ _ _) (fun h => by have h1 := HS3.out; have h3 := HS.out; have h2 : s1 = g := h; omega)) (And.intro (HW5.out.2.2.1.keep (Ch.set _ _ _) (fun h => by have h1 := HS3.out; have h3 := HS.out; have h2 : s2 = g := h; omega)) (below_ch HW5.out.2.2.2 (Ch.set _ _ _) (Nat.le_refl _) (fun k h => by have h2 : k = g := h; have h1 := HS3.out; omega)))))⟩
          case measure => simp [intOf]; omega
        · obtain rfl : k = 8 := by omega
          obtain ⟨F, hF⟩ : ∃ F, F = addTo row hs 8 := ⟨_, rfl⟩
          have hFl : F.length = 8 := by rw [hF, addTo_length]
          have HI1 := Lib.hid (HI.out F hFl)
          have HL1 := Lib.hid (show (ofN F).length = (ofN [0, 0, 0, 0, 0, 0, 0, 0]).length by rw [ofN_length, ofN_length, hFl]; rfl)
          have HF := Lib.hid (show F = blockN hs bs by rw [hF, HFIN.out])
          rw [← hF] at HG
          clear hF hFl
          go_wp2_with (first
            | (refine wpList_load_blk _ rfl 42 (.tmp 7) rfl g 42 (ofN F) HG.out rfl _ Try.underlying42 rfl HI1.out ?_)
            | (refine wpList_store_blk _ rfl 42 (.tmp 6) (.tmp 96) rfl s2 42 (ofN [0, 0, 0, 0, 0, 0, 0, 0]) (ofN F) HW.out.2.2.1 rfl rfl HL1.out HI1.out (one_ofN _) ?_; intro w7 hb7 hch7 hsz7))
          have HW7 := below_ch HW.out.2.2.2 hch7 (Nat.le_refl _) (fun k h => by have h2 : k = s2 := h; have h3 := HS.out; omega)
          refine bodyPost_ret (v := .agg (ofN F).toArray) ?_ rfl ⟨by rw [HF.out], HW7⟩
          exact results_blk Try.results46 _ _ s2 _ _ rfl hb7 _ Try.underlying42 rfl HI1.out

end Go.Proofs.Ytkbhehnpgnilmaa
