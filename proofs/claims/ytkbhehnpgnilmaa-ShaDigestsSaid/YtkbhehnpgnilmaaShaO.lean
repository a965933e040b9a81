/-
  ShaOrders, walked. Conditions: digests of 32 bytes.
-/
import Derived.Test.YtkbhehnpgnilmaaShaK
import Derived.Test.YtkbhehnpgnilmaaEqA
namespace Go.Proofs.Ytkbhehnpgnilmaa
open Go Go.RowKit

theorem lessL_asymm : ∀ (xs ys : List Int), lessL xs ys = true → lessL ys xs = false
  | x :: xs, y :: ys, h => by
    unfold lessL at *
    by_cases he : x = y
    · subst he; simp only [if_true] at *; exact lessL_asymm xs ys h
    · rw [if_neg he] at h; rw [if_neg (Ne.symm he)]; simp at *; omega
  | [], _, h => by simp [lessL] at h
  | _ :: _, [], h => by simp [lessL] at h

theorem lessL_total : ∀ (xs ys : List Int), xs.length = ys.length → xs ≠ ys → lessL xs ys = true ∨ lessL ys xs = true
  | [], [], _, h => absurd rfl h
  | x :: xs, y :: ys, hl, h => by
    unfold lessL
    by_cases he : x = y
    · subst he; simp only [if_true]; exact lessL_total xs ys (by simpa using hl) (fun e => h (by rw [e]))
    · rw [if_neg he, if_neg (Ne.symm he)]; simp; omega
  | [], _ :: _, hl, _ => by simp at hl
  | _ :: _, [], hl, _ => by simp at hl

theorem lessL_trans : ∀ (xs ys zs : List Int), lessL xs ys = true → lessL ys zs = true → lessL xs zs = true
  | x :: xs, y :: ys, z :: zs, h1, h2 => by
    unfold lessL at *
    by_cases he : x = y
    · subst he
      simp only [if_true] at h1
      by_cases hf : x = z
      · subst hf; simp only [if_true] at *; exact lessL_trans xs ys zs h1 h2
      · rw [if_neg hf] at *; exact h2
    · rw [if_neg he] at h1
      by_cases hf : y = z
      · subst hf; rw [if_neg he]; exact h1
      · rw [if_neg hf] at h2
        rw [if_neg (by simp at h1 h2; omega)]; simp at *; omega
  | [], _, _, h, _ => by simp [lessL] at h
  | _ :: _, [], _, h, _ => by simp [lessL] at h
  | _ :: _, _ :: _, [], _, h => by simp [lessL] at h

theorem wpList_load_want {P : Program} {ops : Array Oper} {rest : List Oper} {op : Oper} {a : Act} {w : World} {Q : Exit → Act → World → Prop} (hgd : Region.wanted op (yielded ops a.tmps) = true) (ty : TypeId) (x : Operand) (ho : op.op = .load ty x)
    (b o : Nat) (hx : a.eval x = .pointer (some ⟨b, o, none⟩)) (cs : List Value) (d : TypeDesc) (hc : w.rangeAt b o cs)
    (hu : P.underlying ty = some d) (hd : d.isRow = true) (hi : (P.info? ty).map (·.size) = some cs.length)
    (h : wpList P ops Q rest (a.put op.dst (.agg cs.toArray)) w) : wpList P ops Q (op :: rest) a w :=
  wpList_step fun _ hK => by rw [if_pos hgd]; exact wp_load_mid ty x ho b o hx cs d hc hu hd hi (hK _ _ h)

set_option maxRecDepth 100000 in
set_option maxHeartbeats 2000000 in
theorem orders_ft (r s : Bool) (av bv cv : List Int) (w : World) (ha : av.length = 32) (hb : bv.length = 32) (hc : cv.length = 32) (h0 : lessL av av = false) (h1 : lessL av bv = false) (h2 : lessL bv av = true) (h3 : decide (av = bv) = false) (h4 : lessL bv cv = r) (h5 : lessL av cv = s) :
    Calls Try.prog 5 #[.agg (ofK .u8 av).toArray, .agg (ofK .u8 bv).toArray, .agg (ofK .u8 cv).toArray] w (TrueP w) := by
  have heq : ∀ w, (Op.equalIn 10000 23 (.agg (ofK .u8 av).toArray) (.agg (ofK .u8 bv).toArray)).run Try.prog w = .ok (decide (av = bv)) w := fun w => run_equalIn_arrK (P := Try.prog) w .u8 9998 23 5 32 Try.underlying23 Try.underlying5 (fun _ => by rfl) av bv ha hb
  rw [h3] at heq
  have H := Lib.hid (And.intro ha (And.intro hb (And.intro hc (And.intro h0 (And.intro h1 (And.intro h2 (And.intro h4 h5)))))))
  clear ha hb hc h0 h1 h2 h3 h4 h5
  have HI := Lib.hid (show ∀ xs : List Int, xs.length = 32 → (Try.prog.info? 23).map (·.size) = some (ofK .u8 xs).length from fun xs hx => by rw [length_ofK, hx]; kernel_rfl)
  have B3 := Lib.hid (show Blk (((w.alloc (.cells (ofK .u8 av).toArray 23)).alloc (.cells (ofK .u8 bv).toArray 23)).alloc (.cells (ofK .u8 cv).toArray 23)) w.heap.size 23 (ofK .u8 av) ∧
      Blk (((w.alloc (.cells (ofK .u8 av).toArray 23)).alloc (.cells (ofK .u8 bv).toArray 23)).alloc (.cells (ofK .u8 cv).toArray 23)) (w.heap.size + 1) 23 (ofK .u8 bv) ∧
      Blk (((w.alloc (.cells (ofK .u8 av).toArray 23)).alloc (.cells (ofK .u8 bv).toArray 23)).alloc (.cells (ofK .u8 cv).toArray 23)) (w.heap.size + 2) 23 (ofK .u8 cv) ∧
      Below w.heap.size w (((w.alloc (.cells (ofK .u8 av).toArray 23)).alloc (.cells (ofK .u8 bv).toArray 23)).alloc (.cells (ofK .u8 cv).toArray 23)) from by
    have h2 := Blk.new (w.alloc (.cells (ofK .u8 av).toArray 23)) (ofK .u8 bv) 23
    have h3 := Blk.new ((w.alloc (.cells (ofK .u8 av).toArray 23)).alloc (.cells (ofK .u8 bv).toArray 23)) (ofK .u8 cv) 23
    rw [World.size_alloc] at h2
    rw [World.size_alloc, World.size_alloc] at h3
    exact ⟨((Blk.new w _ _).alloc _).alloc _, h2.alloc _, h3, ((((Below.refl _ w).alloc (Nat.le_refl _) _).alloc (by simp) _).alloc (by simp; omega) _)⟩)
  go_enter Try.func5, Try.ntmps5
  go_wp2_with fail
  refine (wakes3_any _).mono ?_
  rintro e w2 ⟨rfl, hbel⟩
  have HW := Lib.hid (show Blk w2 w.heap.size 23 (ofK .u8 av) ∧ Blk w2 (w.heap.size + 1) 23 (ofK .u8 bv) ∧ Blk w2 (w.heap.size + 2) 23 (ofK .u8 cv) ∧ Below w.heap.size w w2 from
    ⟨B3.out.1.below hbel B3.out.1.lt, B3.out.2.1.below hbel B3.out.2.1.lt, B3.out.2.2.1.below hbel B3.out.2.2.1.lt, below_thn B3.out.2.2.2 hbel (Nat.le_refl _)⟩)
  clear hbel B3
  go_wp2_with fail
  refine wp_region_grew (by kernel_rfl) (by kernel_rfl) ?_
  repeat (first | go_big_quiet_skip | (go_big_quiet_want; (first | (refine quiet_load_mid 23 (.tmp 3) rfl w.heap.size 0 rfl (ofK .u8 av) _ (fun w' hw' => rangeAt_grew (rangeAt_blk HW.out.1) w' hw') Try.underlying23 rfl (HI.out _ H.out.1) ?_; go_simp; go_big_quiet_on) | (refine quiet_load_mid 23 (.tmp 4) rfl (w.heap.size + 1) 0 rfl (ofK .u8 bv) _ (fun w' hw' => rangeAt_grew (rangeAt_blk HW.out.2.1) w' hw') Try.underlying23 rfl (HI.out _ H.out.2.1) ?_; go_simp; go_big_quiet_on) | (refine quiet_load_mid 23 (.tmp 5) rfl (w.heap.size + 2) 0 rfl (ofK .u8 cv) _ (fun w' hw' => rangeAt_grew (rangeAt_blk HW.out.2.2.1) w' hw') Try.underlying23 rfl (HI.out _ H.out.2.2.1) ?_; go_simp; go_big_quiet_on) | (go_big_quiet_op; (first | go_big_quiet_on | (apply Exists.intro; refine ⟨fun _ => ?_, ?_⟩; (focus (go_at_call 29; first | (with_reducible exact calls_grew (less_of av av _ _ H.out.1 H.out.1 H.out.2.2.2.1)) | (with_reducible exact calls_grew (less_of av bv _ _ H.out.1 H.out.2.1 H.out.2.2.2.2.1)) | (with_reducible exact calls_grew (less_of bv av _ _ H.out.2.1 H.out.1 H.out.2.2.2.2.2.1)))); go_big_quiet_on))))))
  refine wpQuiet_nil ?_
  intro w5 hw5
  obtain ⟨x, rfl⟩ := hw5
  have hbel := below_grew w2 x
  have HW5 := Lib.hid (below_thn HW.out.2.2.2 hbel (Nat.le_refl _))
  have HR := Lib.hid (show ∀ w', Below (grew w2 x).heap.size (grew w2 x) w' → w'.rangeAt w.heap.size 0 (ofK .u8 av) ∧ w'.rangeAt (w.heap.size + 1) 0 (ofK .u8 bv) ∧ w'.rangeAt (w.heap.size + 1 + 1) 0 (ofK .u8 cv) from fun w' hb => by
    have k1 := HW.out.1.below hbel HW.out.1.lt
    have k2 := HW.out.2.1.below hbel HW.out.2.1.lt
    have k3 := HW.out.2.2.1.below hbel HW.out.2.2.1.lt
    exact ⟨rangeAt_blk (k1.below hb k1.lt), rangeAt_blk (k2.below hb k2.lt), rangeAt_blk (k3.below hb k3.lt)⟩)
  clear hbel HW heq
  generalize grew w2 x = w5 at HW5 HR ⊢
  have hb0 : Below w5.heap.size w5 w5 := Below.refl _ _
  go_wp2_with (first | (refine wpList_load_want rfl 23 (.tmp 3) rfl w.heap.size 0 rfl (ofK .u8 av) _ (HR.out _ (by assumption)).1 Try.underlying23 rfl (HI.out _ H.out.1) ?_) | (refine wpList_load_want rfl 23 (.tmp 4) rfl (w.heap.size + 1) 0 rfl (ofK .u8 bv) _ (HR.out _ (by assumption)).2.1 Try.underlying23 rfl (HI.out _ H.out.2.1) ?_) | (refine wpList_load_want rfl 23 (.tmp 5) rfl (w.heap.size + 1 + 1) 0 rfl (ofK .u8 cv) _ (HR.out _ (by assumption)).2.2 Try.underlying23 rfl (HI.out _ H.out.2.2.1) ?_))
  refine (less_of av bv _ _ H.out.1 H.out.2.1 H.out.2.2.2.2.1).mono ?_
  rintro e w6 ⟨rfl, hbel⟩
  have hb1 := below_thn hb0 hbel (Nat.le_refl _)
  clear hbel hb0
  go_wp2_with (first | (refine wpList_load_want rfl 23 (.tmp 3) rfl w.heap.size 0 rfl (ofK .u8 av) _ (HR.out _ (by assumption)).1 Try.underlying23 rfl (HI.out _ H.out.1) ?_) | (refine wpList_load_want rfl 23 (.tmp 4) rfl (w.heap.size + 1) 0 rfl (ofK .u8 bv) _ (HR.out _ (by assumption)).2.1 Try.underlying23 rfl (HI.out _ H.out.2.1) ?_) | (refine wpList_load_want rfl 23 (.tmp 5) rfl (w.heap.size + 1 + 1) 0 rfl (ofK .u8 cv) _ (HR.out _ (by assumption)).2.2 Try.underlying23 rfl (HI.out _ H.out.2.2.1) ?_))
  go_ret
  exact ⟨rfl, below_thn HW5.out hb1 (Nat.le_refl _)⟩

set_option maxRecDepth 100000 in
set_option maxHeartbeats 2000000 in
theorem orders_ff (r s : Bool) (av bv cv : List Int) (w : World) (ha : av.length = 32) (hb : bv.length = 32) (hc : cv.length = 32) (h0 : lessL av av = false) (h1 : lessL av bv = false) (h2 : lessL bv av = false) (h3 : decide (av = bv) = true) (h4 : lessL bv cv = r) (h5 : lessL av cv = s) :
    Calls Try.prog 5 #[.agg (ofK .u8 av).toArray, .agg (ofK .u8 bv).toArray, .agg (ofK .u8 cv).toArray] w (TrueP w) := by
  have heq : ∀ w, (Op.equalIn 10000 23 (.agg (ofK .u8 av).toArray) (.agg (ofK .u8 bv).toArray)).run Try.prog w = .ok (decide (av = bv)) w := fun w => run_equalIn_arrK (P := Try.prog) w .u8 9998 23 5 32 Try.underlying23 Try.underlying5 (fun _ => by rfl) av bv ha hb
  rw [h3] at heq
  have H := Lib.hid (And.intro ha (And.intro hb (And.intro hc (And.intro h0 (And.intro h1 (And.intro h2 (And.intro h4 h5)))))))
  clear ha hb hc h0 h1 h2 h3 h4 h5
  have HI := Lib.hid (show ∀ xs : List Int, xs.length = 32 → (Try.prog.info? 23).map (·.size) = some (ofK .u8 xs).length from fun xs hx => by rw [length_ofK, hx]; kernel_rfl)
  have B3 := Lib.hid (show Blk (((w.alloc (.cells (ofK .u8 av).toArray 23)).alloc (.cells (ofK .u8 bv).toArray 23)).alloc (.cells (ofK .u8 cv).toArray 23)) w.heap.size 23 (ofK .u8 av) ∧
      Blk (((w.alloc (.cells (ofK .u8 av).toArray 23)).alloc (.cells (ofK .u8 bv).toArray 23)).alloc (.cells (ofK .u8 cv).toArray 23)) (w.heap.size + 1) 23 (ofK .u8 bv) ∧
      Blk (((w.alloc (.cells (ofK .u8 av).toArray 23)).alloc (.cells (ofK .u8 bv).toArray 23)).alloc (.cells (ofK .u8 cv).toArray 23)) (w.heap.size + 2) 23 (ofK .u8 cv) ∧
      Below w.heap.size w (((w.alloc (.cells (ofK .u8 av).toArray 23)).alloc (.cells (ofK .u8 bv).toArray 23)).alloc (.cells (ofK .u8 cv).toArray 23)) from by
    have h2 := Blk.new (w.alloc (.cells (ofK .u8 av).toArray 23)) (ofK .u8 bv) 23
    have h3 := Blk.new ((w.alloc (.cells (ofK .u8 av).toArray 23)).alloc (.cells (ofK .u8 bv).toArray 23)) (ofK .u8 cv) 23
    rw [World.size_alloc] at h2
    rw [World.size_alloc, World.size_alloc] at h3
    exact ⟨((Blk.new w _ _).alloc _).alloc _, h2.alloc _, h3, ((((Below.refl _ w).alloc (Nat.le_refl _) _).alloc (by simp) _).alloc (by simp; omega) _)⟩)
  go_enter Try.func5, Try.ntmps5
  go_wp2_with fail
  refine (wakes3_any _).mono ?_
  rintro e w2 ⟨rfl, hbel⟩
  have HW := Lib.hid (show Blk w2 w.heap.size 23 (ofK .u8 av) ∧ Blk w2 (w.heap.size + 1) 23 (ofK .u8 bv) ∧ Blk w2 (w.heap.size + 2) 23 (ofK .u8 cv) ∧ Below w.heap.size w w2 from
    ⟨B3.out.1.below hbel B3.out.1.lt, B3.out.2.1.below hbel B3.out.2.1.lt, B3.out.2.2.1.below hbel B3.out.2.2.1.lt, below_thn B3.out.2.2.2 hbel (Nat.le_refl _)⟩)
  clear hbel B3
  go_wp2_with fail
  refine wp_region_grew (by kernel_rfl) (by kernel_rfl) ?_
  repeat (first | go_big_quiet_skip | (go_big_quiet_want; (first | (refine quiet_load_mid 23 (.tmp 3) rfl w.heap.size 0 rfl (ofK .u8 av) _ (fun w' hw' => rangeAt_grew (rangeAt_blk HW.out.1) w' hw') Try.underlying23 rfl (HI.out _ H.out.1) ?_; go_simp; go_big_quiet_on) | (refine quiet_load_mid 23 (.tmp 4) rfl (w.heap.size + 1) 0 rfl (ofK .u8 bv) _ (fun w' hw' => rangeAt_grew (rangeAt_blk HW.out.2.1) w' hw') Try.underlying23 rfl (HI.out _ H.out.2.1) ?_; go_simp; go_big_quiet_on) | (refine quiet_load_mid 23 (.tmp 5) rfl (w.heap.size + 2) 0 rfl (ofK .u8 cv) _ (fun w' hw' => rangeAt_grew (rangeAt_blk HW.out.2.2.1) w' hw') Try.underlying23 rfl (HI.out _ H.out.2.2.1) ?_; go_simp; go_big_quiet_on) | (go_big_quiet_op; (first | go_big_quiet_on | (apply Exists.intro; refine ⟨fun _ => ?_, ?_⟩; (focus (go_at_call 29; first | (with_reducible exact calls_grew (less_of av av _ _ H.out.1 H.out.1 H.out.2.2.2.1)) | (with_reducible exact calls_grew (less_of av bv _ _ H.out.1 H.out.2.1 H.out.2.2.2.2.1)) | (with_reducible exact calls_grew (less_of bv av _ _ H.out.2.1 H.out.1 H.out.2.2.2.2.2.1)))); go_big_quiet_on))))))
  refine wpQuiet_nil ?_
  intro w5 hw5
  obtain ⟨x, rfl⟩ := hw5
  have hbel := below_grew w2 x
  have HW5 := Lib.hid (below_thn HW.out.2.2.2 hbel (Nat.le_refl _))
  have HR := Lib.hid (show ∀ w', Below (grew w2 x).heap.size (grew w2 x) w' → w'.rangeAt w.heap.size 0 (ofK .u8 av) ∧ w'.rangeAt (w.heap.size + 1) 0 (ofK .u8 bv) ∧ w'.rangeAt (w.heap.size + 1 + 1) 0 (ofK .u8 cv) from fun w' hb => by
    have k1 := HW.out.1.below hbel HW.out.1.lt
    have k2 := HW.out.2.1.below hbel HW.out.2.1.lt
    have k3 := HW.out.2.2.1.below hbel HW.out.2.2.1.lt
    exact ⟨rangeAt_blk (k1.below hb k1.lt), rangeAt_blk (k2.below hb k2.lt), rangeAt_blk (k3.below hb k3.lt)⟩)
  clear hbel HW heq
  generalize grew w2 x = w5 at HW5 HR ⊢
  have hb0 : Below w5.heap.size w5 w5 := Below.refl _ _
  go_wp2_with (first | (refine wpList_load_want rfl 23 (.tmp 3) rfl w.heap.size 0 rfl (ofK .u8 av) _ (HR.out _ (by assumption)).1 Try.underlying23 rfl (HI.out _ H.out.1) ?_) | (refine wpList_load_want rfl 23 (.tmp 4) rfl (w.heap.size + 1) 0 rfl (ofK .u8 bv) _ (HR.out _ (by assumption)).2.1 Try.underlying23 rfl (HI.out _ H.out.2.1) ?_) | (refine wpList_load_want rfl 23 (.tmp 5) rfl (w.heap.size + 1 + 1) 0 rfl (ofK .u8 cv) _ (HR.out _ (by assumption)).2.2 Try.underlying23 rfl (HI.out _ H.out.2.2.1) ?_))
  refine (less_of av bv _ _ H.out.1 H.out.2.1 H.out.2.2.2.2.1).mono ?_
  rintro e w6 ⟨rfl, hbel⟩
  have hb1 := below_thn hb0 hbel (Nat.le_refl _)
  clear hbel hb0
  go_wp2_with (first | (refine wpList_load_want rfl 23 (.tmp 3) rfl w.heap.size 0 rfl (ofK .u8 av) _ (HR.out _ (by assumption)).1 Try.underlying23 rfl (HI.out _ H.out.1) ?_) | (refine wpList_load_want rfl 23 (.tmp 4) rfl (w.heap.size + 1) 0 rfl (ofK .u8 bv) _ (HR.out _ (by assumption)).2.1 Try.underlying23 rfl (HI.out _ H.out.2.1) ?_) | (refine wpList_load_want rfl 23 (.tmp 5) rfl (w.heap.size + 1 + 1) 0 rfl (ofK .u8 cv) _ (HR.out _ (by assumption)).2.2 Try.underlying23 rfl (HI.out _ H.out.2.2.1) ?_))
  go_ret
  exact ⟨rfl, below_thn HW5.out hb1 (Nat.le_refl _)⟩

set_option maxRecDepth 100000 in
set_option maxHeartbeats 2000000 in
theorem orders_tf (s : Bool) (av bv cv : List Int) (w : World) (ha : av.length = 32) (hb : bv.length = 32) (hc : cv.length = 32) (h0 : lessL av av = false) (h1 : lessL av bv = true) (h2 : lessL bv av = false) (h3 : decide (av = bv) = false) (h4 : lessL bv cv = false) (h5 : lessL av cv = s) :
    Calls Try.prog 5 #[.agg (ofK .u8 av).toArray, .agg (ofK .u8 bv).toArray, .agg (ofK .u8 cv).toArray] w (TrueP w) := by
  have heq : ∀ w, (Op.equalIn 10000 23 (.agg (ofK .u8 av).toArray) (.agg (ofK .u8 bv).toArray)).run Try.prog w = .ok (decide (av = bv)) w := fun w => run_equalIn_arrK (P := Try.prog) w .u8 9998 23 5 32 Try.underlying23 Try.underlying5 (fun _ => by rfl) av bv ha hb
  rw [h3] at heq
  have H := Lib.hid (And.intro ha (And.intro hb (And.intro hc (And.intro h0 (And.intro h1 (And.intro h2 (And.intro h4 h5)))))))
  clear ha hb hc h0 h1 h2 h3 h4 h5
  have HI := Lib.hid (show ∀ xs : List Int, xs.length = 32 → (Try.prog.info? 23).map (·.size) = some (ofK .u8 xs).length from fun xs hx => by rw [length_ofK, hx]; kernel_rfl)
  have B3 := Lib.hid (show Blk (((w.alloc (.cells (ofK .u8 av).toArray 23)).alloc (.cells (ofK .u8 bv).toArray 23)).alloc (.cells (ofK .u8 cv).toArray 23)) w.heap.size 23 (ofK .u8 av) ∧
      Blk (((w.alloc (.cells (ofK .u8 av).toArray 23)).alloc (.cells (ofK .u8 bv).toArray 23)).alloc (.cells (ofK .u8 cv).toArray 23)) (w.heap.size + 1) 23 (ofK .u8 bv) ∧
      Blk (((w.alloc (.cells (ofK .u8 av).toArray 23)).alloc (.cells (ofK .u8 bv).toArray 23)).alloc (.cells (ofK .u8 cv).toArray 23)) (w.heap.size + 2) 23 (ofK .u8 cv) ∧
      Below w.heap.size w (((w.alloc (.cells (ofK .u8 av).toArray 23)).alloc (.cells (ofK .u8 bv).toArray 23)).alloc (.cells (ofK .u8 cv).toArray 23)) from by
    have h2 := Blk.new (w.alloc (.cells (ofK .u8 av).toArray 23)) (ofK .u8 bv) 23
    have h3 := Blk.new ((w.alloc (.cells (ofK .u8 av).toArray 23)).alloc (.cells (ofK .u8 bv).toArray 23)) (ofK .u8 cv) 23
    rw [World.size_alloc] at h2
    rw [World.size_alloc, World.size_alloc] at h3
    exact ⟨((Blk.new w _ _).alloc _).alloc _, h2.alloc _, h3, ((((Below.refl _ w).alloc (Nat.le_refl _) _).alloc (by simp) _).alloc (by simp; omega) _)⟩)
  go_enter Try.func5, Try.ntmps5
  go_wp2_with fail
  refine (wakes3_any _).mono ?_
  rintro e w2 ⟨rfl, hbel⟩
  have HW := Lib.hid (show Blk w2 w.heap.size 23 (ofK .u8 av) ∧ Blk w2 (w.heap.size + 1) 23 (ofK .u8 bv) ∧ Blk w2 (w.heap.size + 2) 23 (ofK .u8 cv) ∧ Below w.heap.size w w2 from
    ⟨B3.out.1.below hbel B3.out.1.lt, B3.out.2.1.below hbel B3.out.2.1.lt, B3.out.2.2.1.below hbel B3.out.2.2.1.lt, below_thn B3.out.2.2.2 hbel (Nat.le_refl _)⟩)
  clear hbel B3
  go_wp2_with fail
  refine wp_region_grew (by kernel_rfl) (by kernel_rfl) ?_
  repeat (first | go_big_quiet_skip | (go_big_quiet_want; (first | (refine quiet_load_mid 23 (.tmp 3) rfl w.heap.size 0 rfl (ofK .u8 av) _ (fun w' hw' => rangeAt_grew (rangeAt_blk HW.out.1) w' hw') Try.underlying23 rfl (HI.out _ H.out.1) ?_; go_simp; go_big_quiet_on) | (refine quiet_load_mid 23 (.tmp 4) rfl (w.heap.size + 1) 0 rfl (ofK .u8 bv) _ (fun w' hw' => rangeAt_grew (rangeAt_blk HW.out.2.1) w' hw') Try.underlying23 rfl (HI.out _ H.out.2.1) ?_; go_simp; go_big_quiet_on) | (refine quiet_load_mid 23 (.tmp 5) rfl (w.heap.size + 2) 0 rfl (ofK .u8 cv) _ (fun w' hw' => rangeAt_grew (rangeAt_blk HW.out.2.2.1) w' hw') Try.underlying23 rfl (HI.out _ H.out.2.2.1) ?_; go_simp; go_big_quiet_on) | (go_big_quiet_op; (first | go_big_quiet_on | (apply Exists.intro; refine ⟨fun _ => ?_, ?_⟩; (focus (go_at_call 29; first | (with_reducible exact calls_grew (less_of av av _ _ H.out.1 H.out.1 H.out.2.2.2.1)) | (with_reducible exact calls_grew (less_of av bv _ _ H.out.1 H.out.2.1 H.out.2.2.2.2.1)) | (with_reducible exact calls_grew (less_of bv av _ _ H.out.2.1 H.out.1 H.out.2.2.2.2.2.1)))); go_big_quiet_on))))))
  refine wpQuiet_nil ?_
  intro w5 hw5
  obtain ⟨x, rfl⟩ := hw5
  have hbel := below_grew w2 x
  have HW5 := Lib.hid (below_thn HW.out.2.2.2 hbel (Nat.le_refl _))
  have HR := Lib.hid (show ∀ w', Below (grew w2 x).heap.size (grew w2 x) w' → w'.rangeAt w.heap.size 0 (ofK .u8 av) ∧ w'.rangeAt (w.heap.size + 1) 0 (ofK .u8 bv) ∧ w'.rangeAt (w.heap.size + 1 + 1) 0 (ofK .u8 cv) from fun w' hb => by
    have k1 := HW.out.1.below hbel HW.out.1.lt
    have k2 := HW.out.2.1.below hbel HW.out.2.1.lt
    have k3 := HW.out.2.2.1.below hbel HW.out.2.2.1.lt
    exact ⟨rangeAt_blk (k1.below hb k1.lt), rangeAt_blk (k2.below hb k2.lt), rangeAt_blk (k3.below hb k3.lt)⟩)
  clear hbel HW heq
  generalize grew w2 x = w5 at HW5 HR ⊢
  have hb0 : Below w5.heap.size w5 w5 := Below.refl _ _
  go_wp2_with (first | (refine wpList_load_want rfl 23 (.tmp 3) rfl w.heap.size 0 rfl (ofK .u8 av) _ (HR.out _ (by assumption)).1 Try.underlying23 rfl (HI.out _ H.out.1) ?_) | (refine wpList_load_want rfl 23 (.tmp 4) rfl (w.heap.size + 1) 0 rfl (ofK .u8 bv) _ (HR.out _ (by assumption)).2.1 Try.underlying23 rfl (HI.out _ H.out.2.1) ?_) | (refine wpList_load_want rfl 23 (.tmp 5) rfl (w.heap.size + 1 + 1) 0 rfl (ofK .u8 cv) _ (HR.out _ (by assumption)).2.2 Try.underlying23 rfl (HI.out _ H.out.2.2.1) ?_))
  refine (less_of av bv _ _ H.out.1 H.out.2.1 H.out.2.2.2.2.1).mono ?_
  rintro e w6 ⟨rfl, hbel⟩
  have hb1 := below_thn hb0 hbel (Nat.le_refl _)
  clear hbel hb0
  go_wp2_with (first | (refine wpList_load_want rfl 23 (.tmp 3) rfl w.heap.size 0 rfl (ofK .u8 av) _ (HR.out _ (by assumption)).1 Try.underlying23 rfl (HI.out _ H.out.1) ?_) | (refine wpList_load_want rfl 23 (.tmp 4) rfl (w.heap.size + 1) 0 rfl (ofK .u8 bv) _ (HR.out _ (by assumption)).2.1 Try.underlying23 rfl (HI.out _ H.out.2.1) ?_) | (refine wpList_load_want rfl 23 (.tmp 5) rfl (w.heap.size + 1 + 1) 0 rfl (ofK .u8 cv) _ (HR.out _ (by assumption)).2.2 Try.underlying23 rfl (HI.out _ H.out.2.2.1) ?_))
  refine (less_of bv cv _ _ H.out.2.1 H.out.2.2.1 H.out.2.2.2.2.2.2.1).mono ?_
  rintro e w7 ⟨rfl, hbel⟩
  have hb2 := below_thn hb1 hbel (Nat.le_refl _)
  clear hbel hb1
  go_wp2_with (first | (refine wpList_load_want rfl 23 (.tmp 3) rfl w.heap.size 0 rfl (ofK .u8 av) _ (HR.out _ (by assumption)).1 Try.underlying23 rfl (HI.out _ H.out.1) ?_) | (refine wpList_load_want rfl 23 (.tmp 4) rfl (w.heap.size + 1) 0 rfl (ofK .u8 bv) _ (HR.out _ (by assumption)).2.1 Try.underlying23 rfl (HI.out _ H.out.2.1) ?_) | (refine wpList_load_want rfl 23 (.tmp 5) rfl (w.heap.size + 1 + 1) 0 rfl (ofK .u8 cv) _ (HR.out _ (by assumption)).2.2 Try.underlying23 rfl (HI.out _ H.out.2.2.1) ?_))
  go_ret
  exact ⟨rfl, below_thn HW5.out hb2 (Nat.le_refl _)⟩

set_option maxRecDepth 100000 in
set_option maxHeartbeats 2000000 in
theorem orders_tt (av bv cv : List Int) (w : World) (ha : av.length = 32) (hb : bv.length = 32) (hc : cv.length = 32) (h0 : lessL av av = false) (h1 : lessL av bv = true) (h2 : lessL bv av = false) (h3 : decide (av = bv) = false) (h4 : lessL bv cv = true) (h5 : lessL av cv = true) :
    Calls Try.prog 5 #[.agg (ofK .u8 av).toArray, .agg (ofK .u8 bv).toArray, .agg (ofK .u8 cv).toArray] w (TrueP w) := by
  have heq : ∀ w, (Op.equalIn 10000 23 (.agg (ofK .u8 av).toArray) (.agg (ofK .u8 bv).toArray)).run Try.prog w = .ok (decide (av = bv)) w := fun w => run_equalIn_arrK (P := Try.prog) w .u8 9998 23 5 32 Try.underlying23 Try.underlying5 (fun _ => by rfl) av bv ha hb
  rw [h3] at heq
  have H := Lib.hid (And.intro ha (And.intro hb (And.intro hc (And.intro h0 (And.intro h1 (And.intro h2 (And.intro h4 h5)))))))
  clear ha hb hc h0 h1 h2 h3 h4 h5
  have HI := Lib.hid (show ∀ xs : List Int, xs.length = 32 → (Try.prog.info? 23).map (·.size) = some (ofK .u8 xs).length from fun xs hx => by rw [length_ofK, hx]; kernel_rfl)
  have B3 := Lib.hid (show Blk (((w.alloc (.cells (ofK .u8 av).toArray 23)).alloc (.cells (ofK .u8 bv).toArray 23)).alloc (.cells (ofK .u8 cv).toArray 23)) w.heap.size 23 (ofK .u8 av) ∧
      Blk (((w.alloc (.cells (ofK .u8 av).toArray 23)).alloc (.cells (ofK .u8 bv).toArray 23)).alloc (.cells (ofK .u8 cv).toArray 23)) (w.heap.size + 1) 23 (ofK .u8 bv) ∧
      Blk (((w.alloc (.cells (ofK .u8 av).toArray 23)).alloc (.cells (ofK .u8 bv).toArray 23)).alloc (.cells (ofK .u8 cv).toArray 23)) (w.heap.size + 2) 23 (ofK .u8 cv) ∧
      Below w.heap.size w (((w.alloc (.cells (ofK .u8 av).toArray 23)).alloc (.cells (ofK .u8 bv).toArray 23)).alloc (.cells (ofK .u8 cv).toArray 23)) from by
    have h2 := Blk.new (w.alloc (.cells (ofK .u8 av).toArray 23)) (ofK .u8 bv) 23
    have h3 := Blk.new ((w.alloc (.cells (ofK .u8 av).toArray 23)).alloc (.cells (ofK .u8 bv).toArray 23)) (ofK .u8 cv) 23
    rw [World.size_alloc] at h2
    rw [World.size_alloc, World.size_alloc] at h3
    exact ⟨((Blk.new w _ _).alloc _).alloc _, h2.alloc _, h3, ((((Below.refl _ w).alloc (Nat.le_refl _) _).alloc (by simp) _).alloc (by simp; omega) _)⟩)
  go_enter Try.func5, Try.ntmps5
  go_wp2_with fail
  refine (wakes3_any _).mono ?_
  rintro e w2 ⟨rfl, hbel⟩
  have HW := Lib.hid (show Blk w2 w.heap.size 23 (ofK .u8 av) ∧ Blk w2 (w.heap.size + 1) 23 (ofK .u8 bv) ∧ Blk w2 (w.heap.size + 2) 23 (ofK .u8 cv) ∧ Below w.heap.size w w2 from
    ⟨B3.out.1.below hbel B3.out.1.lt, B3.out.2.1.below hbel B3.out.2.1.lt, B3.out.2.2.1.below hbel B3.out.2.2.1.lt, below_thn B3.out.2.2.2 hbel (Nat.le_refl _)⟩)
  clear hbel B3
  go_wp2_with fail
  refine wp_region_grew (by kernel_rfl) (by kernel_rfl) ?_
  repeat (first | go_big_quiet_skip | (go_big_quiet_want; (first | (refine quiet_load_mid 23 (.tmp 3) rfl w.heap.size 0 rfl (ofK .u8 av) _ (fun w' hw' => rangeAt_grew (rangeAt_blk HW.out.1) w' hw') Try.underlying23 rfl (HI.out _ H.out.1) ?_; go_simp; go_big_quiet_on) | (refine quiet_load_mid 23 (.tmp 4) rfl (w.heap.size + 1) 0 rfl (ofK .u8 bv) _ (fun w' hw' => rangeAt_grew (rangeAt_blk HW.out.2.1) w' hw') Try.underlying23 rfl (HI.out _ H.out.2.1) ?_; go_simp; go_big_quiet_on) | (refine quiet_load_mid 23 (.tmp 5) rfl (w.heap.size + 2) 0 rfl (ofK .u8 cv) _ (fun w' hw' => rangeAt_grew (rangeAt_blk HW.out.2.2.1) w' hw') Try.underlying23 rfl (HI.out _ H.out.2.2.1) ?_; go_simp; go_big_quiet_on) | (go_big_quiet_op; (first | go_big_quiet_on | (apply Exists.intro; refine ⟨fun _ => ?_, ?_⟩; (focus (go_at_call 29; first | (with_reducible exact calls_grew (less_of av av _ _ H.out.1 H.out.1 H.out.2.2.2.1)) | (with_reducible exact calls_grew (less_of av bv _ _ H.out.1 H.out.2.1 H.out.2.2.2.2.1)) | (with_reducible exact calls_grew (less_of bv av _ _ H.out.2.1 H.out.1 H.out.2.2.2.2.2.1)))); go_big_quiet_on))))))
  refine wpQuiet_nil ?_
  intro w5 hw5
  obtain ⟨x, rfl⟩ := hw5
  have hbel := below_grew w2 x
  have HW5 := Lib.hid (below_thn HW.out.2.2.2 hbel (Nat.le_refl _))
  have HR := Lib.hid (show ∀ w', Below (grew w2 x).heap.size (grew w2 x) w' → w'.rangeAt w.heap.size 0 (ofK .u8 av) ∧ w'.rangeAt (w.heap.size + 1) 0 (ofK .u8 bv) ∧ w'.rangeAt (w.heap.size + 1 + 1) 0 (ofK .u8 cv) from fun w' hb => by
    have k1 := HW.out.1.below hbel HW.out.1.lt
    have k2 := HW.out.2.1.below hbel HW.out.2.1.lt
    have k3 := HW.out.2.2.1.below hbel HW.out.2.2.1.lt
    exact ⟨rangeAt_blk (k1.below hb k1.lt), rangeAt_blk (k2.below hb k2.lt), rangeAt_blk (k3.below hb k3.lt)⟩)
  clear hbel HW heq
  generalize grew w2 x = w5 at HW5 HR ⊢
  have hb0 : Below w5.heap.size w5 w5 := Below.refl _ _
  go_wp2_with (first | (refine wpList_load_want rfl 23 (.tmp 3) rfl w.heap.size 0 rfl (ofK .u8 av) _ (HR.out _ (by assumption)).1 Try.underlying23 rfl (HI.out _ H.out.1) ?_) | (refine wpList_load_want rfl 23 (.tmp 4) rfl (w.heap.size + 1) 0 rfl (ofK .u8 bv) _ (HR.out _ (by assumption)).2.1 Try.underlying23 rfl (HI.out _ H.out.2.1) ?_) | (refine wpList_load_want rfl 23 (.tmp 5) rfl (w.heap.size + 1 + 1) 0 rfl (ofK .u8 cv) _ (HR.out _ (by assumption)).2.2 Try.underlying23 rfl (HI.out _ H.out.2.2.1) ?_))
  refine (less_of av bv _ _ H.out.1 H.out.2.1 H.out.2.2.2.2.1).mono ?_
  rintro e w6 ⟨rfl, hbel⟩
  have hb1 := below_thn hb0 hbel (Nat.le_refl _)
  clear hbel hb0
  go_wp2_with (first | (refine wpList_load_want rfl 23 (.tmp 3) rfl w.heap.size 0 rfl (ofK .u8 av) _ (HR.out _ (by assumption)).1 Try.underlying23 rfl (HI.out _ H.out.1) ?_) | (refine wpList_load_want rfl 23 (.tmp 4) rfl (w.heap.size + 1) 0 rfl (ofK .u8 bv) _ (HR.out _ (by assumption)).2.1 Try.underlying23 rfl (HI.out _ H.out.2.1) ?_) | (refine wpList_load_want rfl 23 (.tmp 5) rfl (w.heap.size + 1 + 1) 0 rfl (ofK .u8 cv) _ (HR.out _ (by assumption)).2.2 Try.underlying23 rfl (HI.out _ H.out.2.2.1) ?_))
  refine (less_of bv cv _ _ H.out.2.1 H.out.2.2.1 H.out.2.2.2.2.2.2.1).mono ?_
  rintro e w7 ⟨rfl, hbel⟩
  have hb2 := below_thn hb1 hbel (Nat.le_refl _)
  clear hbel hb1
  go_wp2_with (first | (refine wpList_load_want rfl 23 (.tmp 3) rfl w.heap.size 0 rfl (ofK .u8 av) _ (HR.out _ (by assumption)).1 Try.underlying23 rfl (HI.out _ H.out.1) ?_) | (refine wpList_load_want rfl 23 (.tmp 4) rfl (w.heap.size + 1) 0 rfl (ofK .u8 bv) _ (HR.out _ (by assumption)).2.1 Try.underlying23 rfl (HI.out _ H.out.2.1) ?_) | (refine wpList_load_want rfl 23 (.tmp 5) rfl (w.heap.size + 1 + 1) 0 rfl (ofK .u8 cv) _ (HR.out _ (by assumption)).2.2 Try.underlying23 rfl (HI.out _ H.out.2.2.1) ?_))
  refine (less_of av cv _ _ H.out.1 H.out.2.2.1 H.out.2.2.2.2.2.2.2).mono ?_
  rintro e w8 ⟨rfl, hbel⟩
  have hb3 := below_thn hb2 hbel (Nat.le_refl _)
  clear hbel hb2
  go_wp2_with (first | (refine wpList_load_want rfl 23 (.tmp 3) rfl w.heap.size 0 rfl (ofK .u8 av) _ (HR.out _ (by assumption)).1 Try.underlying23 rfl (HI.out _ H.out.1) ?_) | (refine wpList_load_want rfl 23 (.tmp 4) rfl (w.heap.size + 1) 0 rfl (ofK .u8 bv) _ (HR.out _ (by assumption)).2.1 Try.underlying23 rfl (HI.out _ H.out.2.1) ?_) | (refine wpList_load_want rfl 23 (.tmp 5) rfl (w.heap.size + 1 + 1) 0 rfl (ofK .u8 cv) _ (HR.out _ (by assumption)).2.2 Try.underlying23 rfl (HI.out _ H.out.2.2.1) ?_))
  go_ret
  exact ⟨rfl, below_thn HW5.out hb3 (Nat.le_refl _)⟩

theorem shaOrders_walk (av bv cv : List Int) (w : World) (ha : av.length = 32) (_ : AllB av) (hb : bv.length = 32) (_ : AllB bv) (hc : cv.length = 32) (_ : AllB cv) :
    Calls Try.prog 5 #[.agg (ofK .u8 av).toArray, .agg (ofK .u8 bv).toArray, .agg (ofK .u8 cv).toArray] w (TrueP w) := by
  cases h1 : lessL av bv
  · cases h2 : lessL bv av
    · have he : av = bv := by
        by_cases he : av = bv
        · exact he
        · rcases lessL_total av bv (ha.trans hb.symm) he with h | h
          · rw [h1] at h; cases h
          · rw [h2] at h; cases h
      exact orders_ff _ _ av bv cv w ha hb hc (lessL_same _) h1 h2 (by simpa using he) rfl rfl
    · have he : av ≠ bv := fun e => by rw [e, lessL_same] at h2; cases h2
      exact orders_ft _ _ av bv cv w ha hb hc (lessL_same _) h1 h2 (by simpa using he) rfl rfl
  · have h2 := lessL_asymm _ _ h1
    have he : av ≠ bv := fun e => by rw [e, lessL_same] at h1; cases h1
    cases h4 : lessL bv cv
    · exact orders_tf _ av bv cv w ha hb hc (lessL_same _) h1 h2 (by simpa using he) h4 rfl
    · exact orders_tt av bv cv w ha hb hc (lessL_same _) h1 h2 (by simpa using he) h4 (lessL_trans _ _ _ h1 h4)

end Go.Proofs.Ytkbhehnpgnilmaa
