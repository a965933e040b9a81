/-
  Layer 5: term.Less; how rows of bytes stand, walked. Conditions: none.
-/
import Derived.Test.YtfenikoajadiaaaTmG
import Derived.Test.YtfenikoajadiaaaCmp
namespace Go.Proofs.Ytfenikoajadiaaa
open Go Go.RowKit
set_option linter.unusedSimpArgs false
set_option linter.unusedVariables false


theorem cmp_gen (xs ys : List Int) (hx : AllB xs) (hy : AllB ys) : Extern.BytealgCompare.cmp (toB xs) (toB ys) = cmpL xs ys := by
  induction xs generalizing ys with
  | nil =>
    cases ys with
    | nil => rfl
    | cons y ys =>
      unfold Extern.BytealgCompare.cmp
      simp only [toB_size, List.length_nil, List.length_cons, Nat.zero_min, List.range_zero, List.find?_nil, cmpL]
      rw [if_pos (by omega)]
  | cons x xs ih =>
    cases ys with
    | nil =>
      unfold Extern.BytealgCompare.cmp
      simp only [toB_size, List.length_nil, List.length_cons, Nat.min_zero, List.range_zero, List.find?_nil, cmpL]
      rw [if_neg (by omega), if_pos (by omega)]
    | cons y ys =>
      have bx := hx x (by simp)
      have bby := hy y (by simp)
      have ih' := ih ys (fun c hc => hx c (by simp [hc])) (fun c hc => hy c (by simp [hc]))
      unfold Extern.BytealgCompare.cmp at *
      simp only [toB_get, toB_size, List.length_cons, Nat.add_min_add_right] at *
      rw [List.range_succ_eq_map, List.find?_cons]
      have e0 : ((toU8 (x :: xs)).getD 0 default != (toU8 (y :: ys)).getD 0 default) = decide (x ≠ y) := by
        simp only [toU8, List.map_cons, List.getD_cons_zero]
        rw [Bool.eq_iff_iff]
        simp only [bne_iff_ne, ne_eq, decide_eq_true_eq, ← UInt8.toNat_inj, UInt8.toNat_ofNat']
        omega
      rw [e0]
      by_cases e : x = y
      · subst e
        simp only [ne_eq, not_true_eq_false, decide_false, List.find?_map, cmpL, if_true]
        have e1 : ((fun i => (toU8 (x :: xs)).getD i default != (toU8 (x :: ys)).getD i default) ∘ Nat.succ) = fun i => (toU8 xs).getD i default != (toU8 ys).getD i default := by
          funext i; simp [toU8]
        rw [e1, ← ih']
        cases List.find? (fun i => (toU8 xs).getD i default != (toU8 ys).getD i default) (List.range (min xs.length ys.length)) <;> simp [toU8]
      · simp only [ne_eq, e, not_false_eq_true, decide_true, cmpL, if_false]
        have e2 : ((toU8 (x :: xs)).getD 0 default < (toU8 (y :: ys)).getD 0 default) ↔ x < y := by
          simp only [toU8, List.map_cons, List.getD_cons_zero, UInt8.lt_iff_toNat_lt, UInt8.toNat_ofNat']
          omega
        simp only [e2]
theorem cmpL_self : ∀ xs : List Int, cmpL xs xs = 0
  | [] => by rw [cmpL]
  | x :: xs => by rw [cmpL, if_pos rfl, cmpL_self xs]
theorem cmpL_flip : ∀ xs ys : List Int, cmpL ys xs = - cmpL xs ys
  | [], [] => by rw [cmpL]; rfl
  | [], y :: ys => by rw [cmpL, cmpL]; rfl
  | x :: xs, [] => by rw [cmpL, cmpL]
  | x :: xs, y :: ys => by
    rw [cmpL, cmpL]
    by_cases h : x = y
    · subst h; rw [if_pos rfl, if_pos rfl, cmpL_flip xs ys]
    · rw [if_neg h, if_neg (Ne.symm h)]
      by_cases h2 : x < y
      · rw [if_pos h2, if_neg (by omega)]; rfl
      · rw [if_neg h2, if_pos (by omega)]
theorem cmpL_zero : ∀ {xs ys : List Int}, cmpL xs ys = 0 → xs = ys
  | [], [], _ => rfl
  | [], _ :: _, h => by rw [cmpL] at h; cases h
  | _ :: _, [], h => by rw [cmpL] at h; cases h
  | x :: xs, y :: ys, h => by
    rw [cmpL] at h
    by_cases e : x = y
    · rw [if_pos e] at h; rw [e, cmpL_zero h]
    · rw [if_neg e] at h; split at h <;> cases h
theorem cmpL_trans : ∀ {xs ys zs : List Int}, cmpL xs ys < 0 → cmpL ys zs < 0 → cmpL xs zs < 0
  | [], [], _, h, _ => by rw [cmpL] at h; omega
  | [], _ :: _, [], _, h => by rw [cmpL] at h; omega
  | [], _ :: _, _ :: _, _, _ => by rw [cmpL]; omega
  | _ :: _, [], _, h, _ => by rw [cmpL] at h; omega
  | _ :: _, _ :: _, [], _, h => by rw [cmpL] at h; omega
  | x :: xs, y :: ys, z :: zs, h1, h2 => by
    rw [cmpL] at h1 h2 ⊢
    by_cases e1 : x = y
    · subst e1
      rw [if_pos rfl] at h1
      by_cases e2 : x = z
      · subst e2
        rw [if_pos rfl] at h2 ⊢
        exact cmpL_trans h1 h2
      · rw [if_neg e2] at h2 ⊢; exact h2
    · rw [if_neg e1] at h1
      have hxy : x < y := by by_cases h : x < y; exact h; rw [if_neg h] at h1; omega
      by_cases e2 : y = z
      · subst e2
        rw [if_neg e1, if_pos hxy]; omega
      · rw [if_neg e2] at h2
        have hyz : y < z := by by_cases h : y < z; exact h; rw [if_neg h] at h2; omega
        rw [if_neg (by omega), if_pos (by omega)]; omega
/-- the model's own comparing of rows -/
def cmpB (xs ys : List Int) : Int := Extern.BytealgCompare.cmp (toB xs) (toB ys)
/-- stands a term ahead of another? -/
def lessT (a b : Tm) : Bool := decide (0 < sizeT a) && (decide (0 < sizeT b) && decide (cmpB (bytesT a) (bytesT b) < 0))


set_option maxRecDepth 100000 in
set_option maxHeartbeats 8000000 in
theorem less_any5 (a b : Tm) (ca cb : List Value) (Fa Fb : Nat → Prop) (w : World) (ha : TmC Fa w ca a) (hb : TmC Fb w cb b) :
    Calls Try.prog 18 #[.agg ca.toArray, .agg cb.toArray] w (fun e w' => e = .returned (.bool (lessT a b)) ∧ Below w.heap.size w w') := by
  have h1 := ha.old
  have h2 := hb.old
  obtain ⟨ao, c, rfl, -, -, -⟩ := ha.shape
  obtain ⟨bo, d, rfl, -, -, -⟩ := hb.shape
  have HA := Lib.hid h1
  have HB := Lib.hid h2
  obtain ⟨x, hx⟩ : ∃ x, sizeT a = x := ⟨_, rfl⟩
  obtain ⟨y, hy⟩ : ∃ x, sizeT b = x := ⟨_, rfl⟩
  obtain ⟨z, hz⟩ : ∃ x, cmpB (bytesT a) (bytesT b) = x := ⟨_, rfl⟩
  have HX := Lib.hid hx
  have HY := Lib.hid hy
  have HZ := Lib.hid hz
  obtain ⟨R, hR⟩ : ∃ R, lessT a b = R := ⟨_, rfl⟩
  rw [hR]
  have HR := Lib.hid (show (decide (0 < x) && (decide (0 < y) && decide (z < 0))) = R from by rw [← hR, ← hx, ← hy, ← hz]; rfl)
  clear ha hb h1 h2 hx hy hz hR
  have GA := Lib.hid (fun h : x ≠ 0 => sizeT_good (t := a) (by rw [HX.out]; exact h))
  have GB := Lib.hid (fun h : y ≠ 0 => sizeT_good (t := b) (by rw [HY.out]; exact h))
  generalize a.k = k at HA ⊢
  generalize a.u = u at HA ⊢
  generalize a.n = n at HA ⊢
  generalize a.s = s at HA ⊢
  generalize a.ks.length = l at HA ⊢
  generalize b.k = k' at HB ⊢
  generalize b.u = u' at HB ⊢
  generalize b.n = n' at HB ⊢
  generalize b.s = s' at HB ⊢
  generalize b.ks.length = m at HB ⊢
  have H0 := Lib.hid (Below.refl w.heap.size w)
  go_enter Try.func18, Try.ntmps18
  go_wp2_with (first
    | ((with_reducible refine wpList_box_blk w rfl 24 (.tmp 0) rfl (tmC k u n s (.slice ao l c)) rfl ?_); intro a1 hb hbel hsz; have HA1 := Lib.hid (show Below w.heap.size w a1 ∧ Blk a1 w.heap.size 24 (tmC k u n s (.slice ao l c)) from ⟨below_thn H0.out hbel (Nat.le_refl _), hb⟩); clear hb hbel hsz)
    | ((with_reducible refine wpList_box_blk a1 rfl 24 (.tmp 1) rfl (tmC k' u' n' s' (.slice bo m d)) rfl ?_); intro a2 hb hbel hsz; have HA2 := Lib.hid (show Below w.heap.size w a2 ∧ Blk a2 w.heap.size 24 (tmC k u n s (.slice ao l c)) ∧ Blk a2 a1.heap.size 24 (tmC k' u' n' s' (.slice bo m d)) from ⟨below_thn HA1.out.1 hbel (Nat.le_refl _), HA1.out.2.below hbel HA1.out.2.lt, hb⟩); clear hb hbel hsz))
  by_cases h1 : 0 < x
  rotate_left
  · have e1 : decide (0 < x) = false := by simpa using h1
    have HE := Lib.hid (show R = false from by rw [← HR.out, e1, Bool.false_and])
    clear h1
    go_wp2_with fail
    refine wp_region_takes (fun w' => w'.rangeAt w.heap.size 0 (tmC k u n s (.slice ao l c))) [0] 16 (by kernel_rfl) rfl (by kernel_rfl) (by kernel_rfl) (rangeW_blk HA2.out.2.1) ?_
    iterate 1 (refine' HeldL.run ?_ ?_ ?_ ?_; rotate_left 2; (simp only [List.getElem?_toArray, List.getElem?_cons_zero, List.getElem?_cons_succ]; rfl); rfl; (rintro w' k0; exact exec_load_mid rfl rfl k0 Try.underlying24 rfl (tmC_info _ _ _ _ _)); simp only [Act.put, List.setIfInBounds_toArray, List.set_cons_zero, List.set_cons_succ])
    have sm := (Sm.refl a2).drew
    have HV2 := Lib.hid (show Below w.heap.size w a2.drew ∧ Blk a2.drew w.heap.size 24 (tmC k u n s (.slice ao l c)) ∧ Blk a2.drew a1.heap.size 24 (tmC k' u' n' s' (.slice bo m d)) from ⟨below_thn HA2.out.1 (sm.below _) (Nat.le_refl _), HA2.out.2.1.below (sm.below _) HA2.out.2.1.lt, HA2.out.2.2.below (sm.below _) HA2.out.2.2.lt⟩)
    clear sm
    generalize a2.drew = v1 at HV2 ⊢
    refine' wpAnyH_one 1 (by kernel_rfl) ?_ ?_; rotate_left; (simp only [List.getElem?_toArray, List.getElem?_cons_zero, List.getElem?_cons_succ]; rfl)
    try simp only [Act.put]
    go_wp2_with fail
    have hx := size_any a _ _ v1 (HA.out.below HV2.out.1)
    rw [HX.out] at hx
    refine Calls.mono hx ?_
    clear hx
    rintro e' y3 ⟨rfl, hb⟩
    have HY4 := Lib.hid (show Below w.heap.size w y3 ∧ Blk y3 w.heap.size 24 (tmC k u n s (.slice ao l c)) ∧ Blk y3 a1.heap.size 24 (tmC k' u' n' s' (.slice bo m d)) from ⟨below_thn HV2.out.1 hb (Nat.le_refl _), HV2.out.2.1.below hb HV2.out.2.1.lt, HV2.out.2.2.below hb HV2.out.2.2.lt⟩)
    clear hb
    go_wp2_with fail
    refine QK.normal ⟨(rangeW_blk HY4.out.2.1), ?_⟩
    refine' wpAnyH_one 2 (by kernel_rfl) ?_ ?_; rotate_left; (simp only [List.getElem?_toArray, List.getElem?_cons_zero, List.getElem?_cons_succ]; rfl)
    try simp only [Act.put]
    go_wp2_with fail
    refine QK.normal ⟨(rangeW_blk HY4.out.2.1), ?_⟩
    refine' wpAnyH_one 3 (by kernel_rfl) ?_ ?_; rotate_left; (simp only [List.getElem?_toArray, List.getElem?_cons_zero, List.getElem?_cons_succ]; rfl)
    try simp only [Act.put]
    go_wp2_with fail
    refine QK.normal ⟨(rangeW_blk HY4.out.2.1), ?_⟩
    refine' wpAnyH_one 4 (by kernel_rfl) ?_ ?_; rotate_left; (simp only [List.getElem?_toArray, List.getElem?_cons_zero, List.getElem?_cons_succ]; rfl)
    try simp only [Act.put]
    go_wp2_with fail
    refine QK.normal ⟨(rangeW_blk HY4.out.2.1), ?_⟩
    refine' wpAnyH_one 5 (by kernel_rfl) ?_ ?_; rotate_left; (simp only [List.getElem?_toArray, List.getElem?_cons_zero, List.getElem?_cons_succ]; rfl)
    try simp only [Act.put]
    go_wp2_with fail
    refine QK.normal ⟨(rangeW_blk HY4.out.2.1), ?_⟩
    refine' wpAnyH_one 6 (by kernel_rfl) ?_ ?_; rotate_left; (simp only [List.getElem?_toArray, List.getElem?_cons_zero, List.getElem?_cons_succ]; rfl)
    try simp only [Act.put]
    go_wp2_with fail
    refine QK.normal ⟨(rangeW_blk HY4.out.2.1), ?_⟩
    refine' wpAnyH_one 7 (by kernel_rfl) ?_ ?_; rotate_left; (simp only [List.getElem?_toArray, List.getElem?_cons_zero, List.getElem?_cons_succ]; rfl)
    try simp only [Act.put]
    go_wp2_with fail
    refine QK.normal ⟨(rangeW_blk HY4.out.2.1), ?_⟩
    refine' wpAnyH_one 8 (by kernel_rfl) ?_ ?_; rotate_left; (simp only [List.getElem?_toArray, List.getElem?_cons_zero, List.getElem?_cons_succ]; rfl)
    try simp only [Act.put]
    go_wp2_with fail
    refine QK.normal ⟨(rangeW_blk HY4.out.2.1), ?_⟩
    refine' wpAnyH_two 9 11 (by kernel_rfl) ?_ ?_ ?_ ?_; rotate_left 2; (simp only [List.getElem?_toArray, List.getElem?_cons_zero, List.getElem?_cons_succ]; rfl); (simp only [List.getElem?_toArray, List.getElem?_cons_zero, List.getElem?_cons_succ]; rfl)
    · skip
      try simp only [Act.put]
      go_wp2_with fail
      refine QK.normal ⟨(rangeW_blk HY4.out.2.1), ?_⟩
      refine' wpAnyH_two 10 11 (by kernel_rfl) ?_ ?_ ?_ ?_; rotate_left 2; (simp only [List.getElem?_toArray, List.getElem?_cons_zero, List.getElem?_cons_succ]; rfl); (simp only [List.getElem?_toArray, List.getElem?_cons_zero, List.getElem?_cons_succ]; rfl)
      · skip
        try simp only [Act.put]
        go_wp2_with fail
        refine QK.normal ⟨(rangeW_blk HY4.out.2.1), ?_⟩
        refine' wpAnyH_one 11 (by kernel_rfl) ?_ ?_; rotate_left; (simp only [List.getElem?_toArray, List.getElem?_cons_zero, List.getElem?_cons_succ]; rfl)
        try simp only [Act.put]
        go_wp2_with fail
        refine QK.normal ⟨(rangeW_blk HY4.out.2.1), ?_⟩
        refine' wpAnyH_one 12 (by kernel_rfl) ?_ ?_; rotate_left; (simp only [List.getElem?_toArray, List.getElem?_cons_zero, List.getElem?_cons_succ]; rfl)
        try simp only [Act.put]
        go_wp2_with fail
        refine QK.normal ⟨(rangeW_blk HY4.out.2.1), ?_⟩
        refine' wpAnyH_one 13 (by kernel_rfl) ?_ ?_; rotate_left; (simp only [List.getElem?_toArray, List.getElem?_cons_zero, List.getElem?_cons_succ]; rfl)
        try simp only [Act.put]
        go_wp2_with fail
        refine QK.normal ⟨(rangeW_blk HY4.out.2.1), ?_⟩
        refine' wpAnyH_one 14 (by kernel_rfl) ?_ ?_; rotate_left; (simp only [List.getElem?_toArray, List.getElem?_cons_zero, List.getElem?_cons_succ]; rfl)
        try simp only [Act.put]
        go_wp2_with fail
        refine QK.normal ⟨(rangeW_blk HY4.out.2.1), ?_⟩
        refine' wpAnyH_one 15 (by kernel_rfl) ?_ ?_; rotate_left; (simp only [List.getElem?_toArray, List.getElem?_cons_zero, List.getElem?_cons_succ]; rfl)
        try simp only [Act.put]
        go_wp2_with fail
        refine QK.normal ⟨(rangeW_blk HY4.out.2.1), ?_⟩
        refine' wpAnyH_one 16 (by kernel_rfl) ?_ ?_; rotate_left; (simp only [List.getElem?_toArray, List.getElem?_cons_zero, List.getElem?_cons_succ]; rfl)
        try simp only [Act.put]
        go_wp2_with fail
        refine QK.normal ⟨(rangeW_blk HY4.out.2.1), ?_⟩
        refine wpAnyH_done (by kernel_rfl) ?_ _
        refine NoPanic.normal ?_
        go_wp2_with fail
        go_ret
        exact ⟨by rw [HE.out]; rfl, HY4.out.1⟩
      · skip
        try simp only [Act.put]
        go_wp2_with fail
        refine QK.normal ⟨(rangeW_blk HY4.out.2.1), ?_⟩
        refine' wpAnyH_one 10 (by kernel_rfl) ?_ ?_; rotate_left; (simp only [List.getElem?_toArray, List.getElem?_cons_zero, List.getElem?_cons_succ]; rfl)
        try simp only [Act.put]
        go_wp2_with fail
        refine QK.normal ⟨(rangeW_blk HY4.out.2.1), ?_⟩
        refine' wpAnyH_one 12 (by kernel_rfl) ?_ ?_; rotate_left; (simp only [List.getElem?_toArray, List.getElem?_cons_zero, List.getElem?_cons_succ]; rfl)
        try simp only [Act.put]
        go_wp2_with fail
        refine QK.normal ⟨(rangeW_blk HY4.out.2.1), ?_⟩
        refine' wpAnyH_one 13 (by kernel_rfl) ?_ ?_; rotate_left; (simp only [List.getElem?_toArray, List.getElem?_cons_zero, List.getElem?_cons_succ]; rfl)
        try simp only [Act.put]
        go_wp2_with fail
        refine QK.normal ⟨(rangeW_blk HY4.out.2.1), ?_⟩
        refine' wpAnyH_one 14 (by kernel_rfl) ?_ ?_; rotate_left; (simp only [List.getElem?_toArray, List.getElem?_cons_zero, List.getElem?_cons_succ]; rfl)
        try simp only [Act.put]
        go_wp2_with fail
        refine QK.normal ⟨(rangeW_blk HY4.out.2.1), ?_⟩
        refine' wpAnyH_one 15 (by kernel_rfl) ?_ ?_; rotate_left; (simp only [List.getElem?_toArray, List.getElem?_cons_zero, List.getElem?_cons_succ]; rfl)
        try simp only [Act.put]
        go_wp2_with fail
        refine QK.normal ⟨(rangeW_blk HY4.out.2.1), ?_⟩
        refine' wpAnyH_one 16 (by kernel_rfl) ?_ ?_; rotate_left; (simp only [List.getElem?_toArray, List.getElem?_cons_zero, List.getElem?_cons_succ]; rfl)
        try simp only [Act.put]
        go_wp2_with fail
        refine QK.normal ⟨(rangeW_blk HY4.out.2.1), ?_⟩
        refine wpAnyH_done (by kernel_rfl) ?_ _
        refine NoPanic.normal ?_
        go_wp2_with fail
        go_ret
        exact ⟨by rw [HE.out]; rfl, HY4.out.1⟩
    · skip
      try simp only [Act.put]
      go_wp2_with fail
      refine QK.normal ⟨(rangeW_blk HY4.out.2.1), ?_⟩
      refine' wpAnyH_one 9 (by kernel_rfl) ?_ ?_; rotate_left; (simp only [List.getElem?_toArray, List.getElem?_cons_zero, List.getElem?_cons_succ]; rfl)
      try simp only [Act.put]
      go_wp2_with fail
      refine QK.normal ⟨(rangeW_blk HY4.out.2.1), ?_⟩
      refine' wpAnyH_one 10 (by kernel_rfl) ?_ ?_; rotate_left; (simp only [List.getElem?_toArray, List.getElem?_cons_zero, List.getElem?_cons_succ]; rfl)
      try simp only [Act.put]
      go_wp2_with fail
      refine QK.normal ⟨(rangeW_blk HY4.out.2.1), ?_⟩
      refine' wpAnyH_one 12 (by kernel_rfl) ?_ ?_; rotate_left; (simp only [List.getElem?_toArray, List.getElem?_cons_zero, List.getElem?_cons_succ]; rfl)
      try simp only [Act.put]
      go_wp2_with fail
      refine QK.normal ⟨(rangeW_blk HY4.out.2.1), ?_⟩
      refine' wpAnyH_one 13 (by kernel_rfl) ?_ ?_; rotate_left; (simp only [List.getElem?_toArray, List.getElem?_cons_zero, List.getElem?_cons_succ]; rfl)
      try simp only [Act.put]
      go_wp2_with fail
      refine QK.normal ⟨(rangeW_blk HY4.out.2.1), ?_⟩
      refine' wpAnyH_one 14 (by kernel_rfl) ?_ ?_; rotate_left; (simp only [List.getElem?_toArray, List.getElem?_cons_zero, List.getElem?_cons_succ]; rfl)
      try simp only [Act.put]
      go_wp2_with fail
      refine QK.normal ⟨(rangeW_blk HY4.out.2.1), ?_⟩
      refine' wpAnyH_one 15 (by kernel_rfl) ?_ ?_; rotate_left; (simp only [List.getElem?_toArray, List.getElem?_cons_zero, List.getElem?_cons_succ]; rfl)
      try simp only [Act.put]
      go_wp2_with fail
      refine QK.normal ⟨(rangeW_blk HY4.out.2.1), ?_⟩
      refine' wpAnyH_one 16 (by kernel_rfl) ?_ ?_; rotate_left; (simp only [List.getElem?_toArray, List.getElem?_cons_zero, List.getElem?_cons_succ]; rfl)
      try simp only [Act.put]
      go_wp2_with fail
      refine QK.normal ⟨(rangeW_blk HY4.out.2.1), ?_⟩
      refine wpAnyH_done (by kernel_rfl) ?_ _
      refine NoPanic.normal ?_
      go_wp2_with fail
      go_ret
      exact ⟨by rw [HE.out]; rfl, HY4.out.1⟩
  have e1 : decide (0 < x) = true := by simpa using h1
  have GA0 := Lib.hid (GA.out (by omega))
  by_cases h2 : 0 < y
  rotate_left
  · have e2 : decide (0 < y) = false := by simpa using h2
    have HE := Lib.hid (show R = false from by rw [← HR.out, e2, Bool.false_and, Bool.and_false])
    clear h1 h2
    go_wp2_with fail
    refine wp_region_takes (fun w' => w'.rangeAt w.heap.size 0 (tmC k u n s (.slice ao l c))) [0] 16 (by kernel_rfl) rfl (by kernel_rfl) (by kernel_rfl) (rangeW_blk HA2.out.2.1) ?_
    iterate 1 (refine' HeldL.run ?_ ?_ ?_ ?_; rotate_left 2; (simp only [List.getElem?_toArray, List.getElem?_cons_zero, List.getElem?_cons_succ]; rfl); rfl; (rintro w' k0; exact exec_load_mid rfl rfl k0 Try.underlying24 rfl (tmC_info _ _ _ _ _)); simp only [Act.put, List.setIfInBounds_toArray, List.set_cons_zero, List.set_cons_succ])
    have sm := (Sm.refl a2).drew
    have HV6 := Lib.hid (show Below w.heap.size w a2.drew ∧ Blk a2.drew w.heap.size 24 (tmC k u n s (.slice ao l c)) ∧ Blk a2.drew a1.heap.size 24 (tmC k' u' n' s' (.slice bo m d)) from ⟨below_thn HA2.out.1 (sm.below _) (Nat.le_refl _), HA2.out.2.1.below (sm.below _) HA2.out.2.1.lt, HA2.out.2.2.below (sm.below _) HA2.out.2.2.lt⟩)
    clear sm
    generalize a2.drew = v5 at HV6 ⊢
    refine' wpAnyH_one 1 (by kernel_rfl) ?_ ?_; rotate_left; (simp only [List.getElem?_toArray, List.getElem?_cons_zero, List.getElem?_cons_succ]; rfl)
    try simp only [Act.put]
    go_wp2_with fail
    have hx := size_any a _ _ v5 (HA.out.below HV6.out.1)
    rw [HX.out] at hx
    refine Calls.mono hx ?_
    clear hx
    rintro e' y7 ⟨rfl, hb⟩
    have HY8 := Lib.hid (show Below w.heap.size w y7 ∧ Blk y7 w.heap.size 24 (tmC k u n s (.slice ao l c)) ∧ Blk y7 a1.heap.size 24 (tmC k' u' n' s' (.slice bo m d)) from ⟨below_thn HV6.out.1 hb (Nat.le_refl _), HV6.out.2.1.below hb HV6.out.2.1.lt, HV6.out.2.2.below hb HV6.out.2.2.lt⟩)
    clear hb
    go_wp2_with fail
    refine QK.normal ⟨(rangeW_blk HY8.out.2.1), ?_⟩
    refine' wpAnyH_one 2 (by kernel_rfl) ?_ ?_; rotate_left; (simp only [List.getElem?_toArray, List.getElem?_cons_zero, List.getElem?_cons_succ]; rfl)
    try simp only [Act.put]
    go_wp2_with fail
    refine QK.normal ⟨(rangeW_blk HY8.out.2.1), ?_⟩
    refine' wpAnyH_one 3 (by kernel_rfl) ?_ ?_; rotate_left; (simp only [List.getElem?_toArray, List.getElem?_cons_zero, List.getElem?_cons_succ]; rfl)
    try simp only [Act.put]
    go_wp2_with fail
    refine QK.normal ⟨(rangeW_blk HY8.out.2.1), ?_⟩
    refine' wpAnyH_one 4 (by kernel_rfl) ?_ ?_; rotate_left; (simp only [List.getElem?_toArray, List.getElem?_cons_zero, List.getElem?_cons_succ]; rfl)
    try simp only [Act.put]
    go_wp2_with (first
    | (with_reducible refine wpList_load_any rfl 24 (.tmp 3) rfl a1.heap.size 0 rfl (tmC k' u' n' s' (.slice bo m d)) _ (rangeW_blk HY8.out.2.2) Try.underlying24 rfl (tmC_info _ _ _ _ _) ?_)
    | ((with_reducible refine wpList_load_want ?_ 24 (.tmp 3) rfl a1.heap.size 0 rfl (tmC k' u' n' s' (.slice bo m d)) _ (rangeW_blk HY8.out.2.2) Try.underlying24 rfl (tmC_info _ _ _ _ _) ?_); focus rfl))
    refine QK.normal ⟨(rangeW_blk HY8.out.2.1), ?_⟩
    refine' wpAnyH_one 5 (by kernel_rfl) ?_ ?_; rotate_left; (simp only [List.getElem?_toArray, List.getElem?_cons_zero, List.getElem?_cons_succ]; rfl)
    try simp only [Act.put]
    go_wp2_with fail
    have hx := size_any b _ _ y7 (HB.out.below HY8.out.1)
    rw [HY.out] at hx
    refine Calls.mono hx ?_
    clear hx
    rintro e' y9 ⟨rfl, hb⟩
    have HY10 := Lib.hid (show Below w.heap.size w y9 ∧ Blk y9 w.heap.size 24 (tmC k u n s (.slice ao l c)) ∧ Blk y9 a1.heap.size 24 (tmC k' u' n' s' (.slice bo m d)) from ⟨below_thn HY8.out.1 hb (Nat.le_refl _), HY8.out.2.1.below hb HY8.out.2.1.lt, HY8.out.2.2.below hb HY8.out.2.2.lt⟩)
    clear hb
    go_wp2_with fail
    refine QK.normal ⟨(rangeW_blk HY10.out.2.1), ?_⟩
    refine' wpAnyH_one 6 (by kernel_rfl) ?_ ?_; rotate_left; (simp only [List.getElem?_toArray, List.getElem?_cons_zero, List.getElem?_cons_succ]; rfl)
    try simp only [Act.put]
    go_wp2_with fail
    refine QK.normal ⟨(rangeW_blk HY10.out.2.1), ?_⟩
    refine' wpAnyH_one 7 (by kernel_rfl) ?_ ?_; rotate_left; (simp only [List.getElem?_toArray, List.getElem?_cons_zero, List.getElem?_cons_succ]; rfl)
    try simp only [Act.put]
    go_wp2_with fail
    refine QK.normal ⟨(rangeW_blk HY10.out.2.1), ?_⟩
    refine' wpAnyH_one 8 (by kernel_rfl) ?_ ?_; rotate_left; (simp only [List.getElem?_toArray, List.getElem?_cons_zero, List.getElem?_cons_succ]; rfl)
    try simp only [Act.put]
    go_wp2_with fail
    refine QK.normal ⟨(rangeW_blk HY10.out.2.1), ?_⟩
    refine' wpAnyH_two 9 11 (by kernel_rfl) ?_ ?_ ?_ ?_; rotate_left 2; (simp only [List.getElem?_toArray, List.getElem?_cons_zero, List.getElem?_cons_succ]; rfl); (simp only [List.getElem?_toArray, List.getElem?_cons_zero, List.getElem?_cons_succ]; rfl)
    · skip
      try simp only [Act.put]
      go_wp2_with fail
      refine QK.normal ⟨(rangeW_blk HY10.out.2.1), ?_⟩
      refine' wpAnyH_two 10 11 (by kernel_rfl) ?_ ?_ ?_ ?_; rotate_left 2; (simp only [List.getElem?_toArray, List.getElem?_cons_zero, List.getElem?_cons_succ]; rfl); (simp only [List.getElem?_toArray, List.getElem?_cons_zero, List.getElem?_cons_succ]; rfl)
      · skip
        try simp only [Act.put]
        go_wp2_with fail
        refine QK.normal ⟨(rangeW_blk HY10.out.2.1), ?_⟩
        refine' wpAnyH_one 11 (by kernel_rfl) ?_ ?_; rotate_left; (simp only [List.getElem?_toArray, List.getElem?_cons_zero, List.getElem?_cons_succ]; rfl)
        try simp only [Act.put]
        go_wp2_with fail
        refine QK.normal ⟨(rangeW_blk HY10.out.2.1), ?_⟩
        refine' wpAnyH_one 12 (by kernel_rfl) ?_ ?_; rotate_left; (simp only [List.getElem?_toArray, List.getElem?_cons_zero, List.getElem?_cons_succ]; rfl)
        try simp only [Act.put]
        go_wp2_with fail
        refine QK.normal ⟨(rangeW_blk HY10.out.2.1), ?_⟩
        refine' wpAnyH_one 13 (by kernel_rfl) ?_ ?_; rotate_left; (simp only [List.getElem?_toArray, List.getElem?_cons_zero, List.getElem?_cons_succ]; rfl)
        try simp only [Act.put]
        go_wp2_with fail
        refine QK.normal ⟨(rangeW_blk HY10.out.2.1), ?_⟩
        refine' wpAnyH_one 14 (by kernel_rfl) ?_ ?_; rotate_left; (simp only [List.getElem?_toArray, List.getElem?_cons_zero, List.getElem?_cons_succ]; rfl)
        try simp only [Act.put]
        go_wp2_with fail
        refine QK.normal ⟨(rangeW_blk HY10.out.2.1), ?_⟩
        refine' wpAnyH_one 15 (by kernel_rfl) ?_ ?_; rotate_left; (simp only [List.getElem?_toArray, List.getElem?_cons_zero, List.getElem?_cons_succ]; rfl)
        try simp only [Act.put]
        go_wp2_with fail
        refine QK.normal ⟨(rangeW_blk HY10.out.2.1), ?_⟩
        refine' wpAnyH_one 16 (by kernel_rfl) ?_ ?_; rotate_left; (simp only [List.getElem?_toArray, List.getElem?_cons_zero, List.getElem?_cons_succ]; rfl)
        try simp only [Act.put]
        go_wp2_with fail
        refine QK.normal ⟨(rangeW_blk HY10.out.2.1), ?_⟩
        refine wpAnyH_done (by kernel_rfl) ?_ _
        refine NoPanic.normal ?_
        go_wp2_with fail
        go_ret
        exact ⟨by rw [HE.out]; rfl, HY10.out.1⟩
      · skip
        try simp only [Act.put]
        go_wp2_with fail
        refine QK.normal ⟨(rangeW_blk HY10.out.2.1), ?_⟩
        refine' wpAnyH_one 10 (by kernel_rfl) ?_ ?_; rotate_left; (simp only [List.getElem?_toArray, List.getElem?_cons_zero, List.getElem?_cons_succ]; rfl)
        try simp only [Act.put]
        go_wp2_with fail
        refine QK.normal ⟨(rangeW_blk HY10.out.2.1), ?_⟩
        refine' wpAnyH_one 12 (by kernel_rfl) ?_ ?_; rotate_left; (simp only [List.getElem?_toArray, List.getElem?_cons_zero, List.getElem?_cons_succ]; rfl)
        try simp only [Act.put]
        go_wp2_with fail
        refine QK.normal ⟨(rangeW_blk HY10.out.2.1), ?_⟩
        refine' wpAnyH_one 13 (by kernel_rfl) ?_ ?_; rotate_left; (simp only [List.getElem?_toArray, List.getElem?_cons_zero, List.getElem?_cons_succ]; rfl)
        try simp only [Act.put]
        go_wp2_with fail
        refine QK.normal ⟨(rangeW_blk HY10.out.2.1), ?_⟩
        refine' wpAnyH_one 14 (by kernel_rfl) ?_ ?_; rotate_left; (simp only [List.getElem?_toArray, List.getElem?_cons_zero, List.getElem?_cons_succ]; rfl)
        try simp only [Act.put]
        go_wp2_with fail
        refine QK.normal ⟨(rangeW_blk HY10.out.2.1), ?_⟩
        refine' wpAnyH_one 15 (by kernel_rfl) ?_ ?_; rotate_left; (simp only [List.getElem?_toArray, List.getElem?_cons_zero, List.getElem?_cons_succ]; rfl)
        try simp only [Act.put]
        go_wp2_with fail
        refine QK.normal ⟨(rangeW_blk HY10.out.2.1), ?_⟩
        refine' wpAnyH_one 16 (by kernel_rfl) ?_ ?_; rotate_left; (simp only [List.getElem?_toArray, List.getElem?_cons_zero, List.getElem?_cons_succ]; rfl)
        try simp only [Act.put]
        go_wp2_with fail
        refine QK.normal ⟨(rangeW_blk HY10.out.2.1), ?_⟩
        refine wpAnyH_done (by kernel_rfl) ?_ _
        refine NoPanic.normal ?_
        go_wp2_with fail
        go_ret
        exact ⟨by rw [HE.out]; rfl, HY10.out.1⟩
    · skip
      try simp only [Act.put]
      go_wp2_with fail
      refine QK.normal ⟨(rangeW_blk HY10.out.2.1), ?_⟩
      refine' wpAnyH_one 9 (by kernel_rfl) ?_ ?_; rotate_left; (simp only [List.getElem?_toArray, List.getElem?_cons_zero, List.getElem?_cons_succ]; rfl)
      try simp only [Act.put]
      go_wp2_with fail
      refine QK.normal ⟨(rangeW_blk HY10.out.2.1), ?_⟩
      refine' wpAnyH_one 10 (by kernel_rfl) ?_ ?_; rotate_left; (simp only [List.getElem?_toArray, List.getElem?_cons_zero, List.getElem?_cons_succ]; rfl)
      try simp only [Act.put]
      go_wp2_with fail
      refine QK.normal ⟨(rangeW_blk HY10.out.2.1), ?_⟩
      refine' wpAnyH_one 12 (by kernel_rfl) ?_ ?_; rotate_left; (simp only [List.getElem?_toArray, List.getElem?_cons_zero, List.getElem?_cons_succ]; rfl)
      try simp only [Act.put]
      go_wp2_with fail
      refine QK.normal ⟨(rangeW_blk HY10.out.2.1), ?_⟩
      refine' wpAnyH_one 13 (by kernel_rfl) ?_ ?_; rotate_left; (simp only [List.getElem?_toArray, List.getElem?_cons_zero, List.getElem?_cons_succ]; rfl)
      try simp only [Act.put]
      go_wp2_with fail
      refine QK.normal ⟨(rangeW_blk HY10.out.2.1), ?_⟩
      refine' wpAnyH_one 14 (by kernel_rfl) ?_ ?_; rotate_left; (simp only [List.getElem?_toArray, List.getElem?_cons_zero, List.getElem?_cons_succ]; rfl)
      try simp only [Act.put]
      go_wp2_with fail
      refine QK.normal ⟨(rangeW_blk HY10.out.2.1), ?_⟩
      refine' wpAnyH_one 15 (by kernel_rfl) ?_ ?_; rotate_left; (simp only [List.getElem?_toArray, List.getElem?_cons_zero, List.getElem?_cons_succ]; rfl)
      try simp only [Act.put]
      go_wp2_with fail
      refine QK.normal ⟨(rangeW_blk HY10.out.2.1), ?_⟩
      refine' wpAnyH_one 16 (by kernel_rfl) ?_ ?_; rotate_left; (simp only [List.getElem?_toArray, List.getElem?_cons_zero, List.getElem?_cons_succ]; rfl)
      try simp only [Act.put]
      go_wp2_with fail
      refine QK.normal ⟨(rangeW_blk HY10.out.2.1), ?_⟩
      refine wpAnyH_done (by kernel_rfl) ?_ _
      refine NoPanic.normal ?_
      go_wp2_with fail
      go_ret
      exact ⟨by rw [HE.out]; rfl, HY10.out.1⟩
  have e2 : decide (0 < y) = true := by simpa using h2
  have GB0 := Lib.hid (GB.out (by omega))
  have HE := Lib.hid (show R = decide (z < 0) from by rw [← HR.out, e1, e2, Bool.true_and, Bool.true_and])
  clear h1 h2
  go_wp2_with fail
  refine wp_region_takes (fun w' => w'.rangeAt w.heap.size 0 (tmC k u n s (.slice ao l c))) [0] 16 (by kernel_rfl) rfl (by kernel_rfl) (by kernel_rfl) (rangeW_blk HA2.out.2.1) ?_
  iterate 1 (refine' HeldL.run ?_ ?_ ?_ ?_; rotate_left 2; (simp only [List.getElem?_toArray, List.getElem?_cons_zero, List.getElem?_cons_succ]; rfl); rfl; (rintro w' k0; exact exec_load_mid rfl rfl k0 Try.underlying24 rfl (tmC_info _ _ _ _ _)); simp only [Act.put, List.setIfInBounds_toArray, List.set_cons_zero, List.set_cons_succ])
  have sm := (Sm.refl a2).drew
  have HV12 := Lib.hid (show Below w.heap.size w a2.drew ∧ Blk a2.drew w.heap.size 24 (tmC k u n s (.slice ao l c)) ∧ Blk a2.drew a1.heap.size 24 (tmC k' u' n' s' (.slice bo m d)) from ⟨below_thn HA2.out.1 (sm.below _) (Nat.le_refl _), HA2.out.2.1.below (sm.below _) HA2.out.2.1.lt, HA2.out.2.2.below (sm.below _) HA2.out.2.2.lt⟩)
  clear sm
  generalize a2.drew = v11 at HV12 ⊢
  refine' wpAnyH_one 1 (by kernel_rfl) ?_ ?_; rotate_left; (simp only [List.getElem?_toArray, List.getElem?_cons_zero, List.getElem?_cons_succ]; rfl)
  try simp only [Act.put]
  go_wp2_with fail
  have hx := size_any a _ _ v11 (HA.out.below HV12.out.1)
  rw [HX.out] at hx
  refine Calls.mono hx ?_
  clear hx
  rintro e' y13 ⟨rfl, hb⟩
  have HY14 := Lib.hid (show Below w.heap.size w y13 ∧ Blk y13 w.heap.size 24 (tmC k u n s (.slice ao l c)) ∧ Blk y13 a1.heap.size 24 (tmC k' u' n' s' (.slice bo m d)) from ⟨below_thn HV12.out.1 hb (Nat.le_refl _), HV12.out.2.1.below hb HV12.out.2.1.lt, HV12.out.2.2.below hb HV12.out.2.2.lt⟩)
  clear hb
  go_wp2_with fail
  refine QK.normal ⟨(rangeW_blk HY14.out.2.1), ?_⟩
  refine' wpAnyH_one 2 (by kernel_rfl) ?_ ?_; rotate_left; (simp only [List.getElem?_toArray, List.getElem?_cons_zero, List.getElem?_cons_succ]; rfl)
  try simp only [Act.put]
  go_wp2_with fail
  refine QK.normal ⟨(rangeW_blk HY14.out.2.1), ?_⟩
  refine' wpAnyH_one 3 (by kernel_rfl) ?_ ?_; rotate_left; (simp only [List.getElem?_toArray, List.getElem?_cons_zero, List.getElem?_cons_succ]; rfl)
  try simp only [Act.put]
  go_wp2_with fail
  refine QK.normal ⟨(rangeW_blk HY14.out.2.1), ?_⟩
  refine' wpAnyH_one 4 (by kernel_rfl) ?_ ?_; rotate_left; (simp only [List.getElem?_toArray, List.getElem?_cons_zero, List.getElem?_cons_succ]; rfl)
  try simp only [Act.put]
  go_wp2_with (first
    | (with_reducible refine wpList_load_any rfl 24 (.tmp 3) rfl a1.heap.size 0 rfl (tmC k' u' n' s' (.slice bo m d)) _ (rangeW_blk HY14.out.2.2) Try.underlying24 rfl (tmC_info _ _ _ _ _) ?_)
    | ((with_reducible refine wpList_load_want ?_ 24 (.tmp 3) rfl a1.heap.size 0 rfl (tmC k' u' n' s' (.slice bo m d)) _ (rangeW_blk HY14.out.2.2) Try.underlying24 rfl (tmC_info _ _ _ _ _) ?_); focus rfl))
  refine QK.normal ⟨(rangeW_blk HY14.out.2.1), ?_⟩
  refine' wpAnyH_one 5 (by kernel_rfl) ?_ ?_; rotate_left; (simp only [List.getElem?_toArray, List.getElem?_cons_zero, List.getElem?_cons_succ]; rfl)
  try simp only [Act.put]
  go_wp2_with fail
  have hx := size_any b _ _ y13 (HB.out.below HY14.out.1)
  rw [HY.out] at hx
  refine Calls.mono hx ?_
  clear hx
  rintro e' y15 ⟨rfl, hb⟩
  have HY16 := Lib.hid (show Below w.heap.size w y15 ∧ Blk y15 w.heap.size 24 (tmC k u n s (.slice ao l c)) ∧ Blk y15 a1.heap.size 24 (tmC k' u' n' s' (.slice bo m d)) from ⟨below_thn HY14.out.1 hb (Nat.le_refl _), HY14.out.2.1.below hb HY14.out.2.1.lt, HY14.out.2.2.below hb HY14.out.2.2.lt⟩)
  clear hb
  go_wp2_with fail
  refine QK.normal ⟨(rangeW_blk HY16.out.2.1), ?_⟩
  refine' wpAnyH_one 6 (by kernel_rfl) ?_ ?_; rotate_left; (simp only [List.getElem?_toArray, List.getElem?_cons_zero, List.getElem?_cons_succ]; rfl)
  try simp only [Act.put]
  go_wp2_with fail
  refine QK.normal ⟨(rangeW_blk HY16.out.2.1), ?_⟩
  refine' wpAnyH_one 7 (by kernel_rfl) ?_ ?_; rotate_left; (simp only [List.getElem?_toArray, List.getElem?_cons_zero, List.getElem?_cons_succ]; rfl)
  try simp only [Act.put]
  go_wp2_with fail
  refine QK.normal ⟨(rangeW_blk HY16.out.2.1), ?_⟩
  refine' wpAnyH_one 8 (by kernel_rfl) ?_ ?_; rotate_left; (simp only [List.getElem?_toArray, List.getElem?_cons_zero, List.getElem?_cons_succ]; rfl)
  try simp only [Act.put]
  go_wp2_with fail
  refine QK.normal ⟨(rangeW_blk HY16.out.2.1), ?_⟩
  refine' wpAnyH_two 9 11 (by kernel_rfl) ?_ ?_ ?_ ?_; rotate_left 2; (simp only [List.getElem?_toArray, List.getElem?_cons_zero, List.getElem?_cons_succ]; rfl); (simp only [List.getElem?_toArray, List.getElem?_cons_zero, List.getElem?_cons_succ]; rfl)
  · skip
    try simp only [Act.put]
    go_wp2_with (first
    | (with_reducible refine wpList_load_any rfl 24 (.tmp 2) rfl w.heap.size 0 rfl (tmC k u n s (.slice ao l c)) _ (rangeW_blk HY16.out.2.1) Try.underlying24 rfl (tmC_info _ _ _ _ _) ?_)
    | ((with_reducible refine wpList_load_want ?_ 24 (.tmp 2) rfl w.heap.size 0 rfl (tmC k u n s (.slice ao l c)) _ (rangeW_blk HY16.out.2.1) Try.underlying24 rfl (tmC_info _ _ _ _ _) ?_); focus rfl))
    refine QK.normal ⟨(rangeW_blk HY16.out.2.1), ?_⟩
    refine' wpAnyH_two 10 11 (by kernel_rfl) ?_ ?_ ?_ ?_; rotate_left 2; (simp only [List.getElem?_toArray, List.getElem?_cons_zero, List.getElem?_cons_succ]; rfl); (simp only [List.getElem?_toArray, List.getElem?_cons_zero, List.getElem?_cons_succ]; rfl)
    · skip
      try simp only [Act.put]
      go_wp2_with fail
      have hx := put_any a _ _ y15.heap.size (.slice none 0 0) [] y15 GA0.out.1 (HA.out.below HY16.out.1) (fun j _ e => by cases e) (Nat.le_refl _) (World.ownsRow_nil _ _ _ _) (by have := GA0.out.2.2.2; simp; omega)
      rw [List.nil_append] at hx
      refine Calls.mono hx ?_
      clear hx
      rintro e' y17 ⟨n19o, n19c, rfl, hrow, hgw⟩
      generalize (bytesT a).length = n19l at hrow hgw ⊢
      have HY18 := Lib.hid (show Below w.heap.size w y17 ∧ Blk y17 w.heap.size 24 (tmC k u n s (.slice ao l c)) ∧ Blk y17 a1.heap.size 24 (tmC k' u' n' s' (.slice bo m d)) ∧ Sl y17 (.slice n19o n19l n19c) (ofK .u8 (bytesT a)) from ⟨below_thn HY16.out.1 hgw.nil (Nat.le_refl _), HY16.out.2.1.below hgw.nil HY16.out.2.1.lt, HY16.out.2.2.below hgw.nil HY16.out.2.2.lt, Sl.of_owns hrow⟩)
      clear hrow hgw
      go_wp2_with fail
      refine QK.normal ⟨(rangeW_blk HY18.out.2.1), ?_⟩
      refine' wpAnyH_one 11 (by kernel_rfl) ?_ ?_; rotate_left; (simp only [List.getElem?_toArray, List.getElem?_cons_zero, List.getElem?_cons_succ]; rfl)
      try simp only [Act.put]
      go_wp2_with (first
    | (with_reducible refine wpList_load_any rfl 24 (.tmp 3) rfl a1.heap.size 0 rfl (tmC k' u' n' s' (.slice bo m d)) _ (rangeW_blk HY18.out.2.2.1) Try.underlying24 rfl (tmC_info _ _ _ _ _) ?_)
    | ((with_reducible refine wpList_load_want ?_ 24 (.tmp 3) rfl a1.heap.size 0 rfl (tmC k' u' n' s' (.slice bo m d)) _ (rangeW_blk HY18.out.2.2.1) Try.underlying24 rfl (tmC_info _ _ _ _ _) ?_); focus rfl))
      refine QK.normal ⟨(rangeW_blk HY18.out.2.1), ?_⟩
      refine' wpAnyH_one 12 (by kernel_rfl) ?_ ?_; rotate_left; (simp only [List.getElem?_toArray, List.getElem?_cons_zero, List.getElem?_cons_succ]; rfl)
      try simp only [Act.put]
      go_wp2_with fail
      have hx := put_any b _ _ y17.heap.size (.slice none 0 0) [] y17 GB0.out.1 (HB.out.below HY18.out.1) (fun j _ e => by cases e) (Nat.le_refl _) (World.ownsRow_nil _ _ _ _) (by have := GB0.out.2.2.2; simp; omega)
      rw [List.nil_append] at hx
      refine Calls.mono hx ?_
      clear hx
      rintro e' y20 ⟨n22o, n22c, rfl, hrow, hgw⟩
      generalize (bytesT b).length = n22l at hrow hgw ⊢
      have HY21 := Lib.hid (show Below w.heap.size w y20 ∧ Blk y20 w.heap.size 24 (tmC k u n s (.slice ao l c)) ∧ Blk y20 a1.heap.size 24 (tmC k' u' n' s' (.slice bo m d)) ∧ Sl y20 (.slice n19o n19l n19c) (ofK .u8 (bytesT a)) ∧ Sl y20 (.slice n22o n22l n22c) (ofK .u8 (bytesT b)) from ⟨below_thn HY18.out.1 hgw.nil (Nat.le_refl _), HY18.out.2.1.below hgw.nil HY18.out.2.1.lt, HY18.out.2.2.1.below hgw.nil HY18.out.2.2.1.lt, HY18.out.2.2.2.below hgw.nil (Nat.le_refl _), Sl.of_owns hrow⟩)
      clear hrow hgw
      go_wp2_with fail
      refine QK.normal ⟨(rangeW_blk HY21.out.2.1), ?_⟩
      refine' wpAnyH_one 13 (by kernel_rfl) ?_ ?_; rotate_left; (simp only [List.getElem?_toArray, List.getElem?_cons_zero, List.getElem?_cons_succ]; rfl)
      try simp only [Act.put]
      go_wp2_with fail
      refine (compare_of _ _ (bytesT a) (bytesT b) z y20 HY21.out.2.2.2.1 HY21.out.2.2.2.2 HZ.out).mono ?_
      rintro e' w' ⟨rfl, rfl⟩
      go_wp2_with fail
      refine QK.normal ⟨(rangeW_blk HY21.out.2.1), ?_⟩
      refine' wpAnyH_one 14 (by kernel_rfl) ?_ ?_; rotate_left; (simp only [List.getElem?_toArray, List.getElem?_cons_zero, List.getElem?_cons_succ]; rfl)
      try simp only [Act.put]
      go_wp2_with fail
      refine QK.normal ⟨(rangeW_blk HY21.out.2.1), ?_⟩
      refine' wpAnyH_one 15 (by kernel_rfl) ?_ ?_; rotate_left; (simp only [List.getElem?_toArray, List.getElem?_cons_zero, List.getElem?_cons_succ]; rfl)
      try simp only [Act.put]
      go_wp2_with fail
      refine QK.normal ⟨(rangeW_blk HY21.out.2.1), ?_⟩
      refine' wpAnyH_one 16 (by kernel_rfl) ?_ ?_; rotate_left; (simp only [List.getElem?_toArray, List.getElem?_cons_zero, List.getElem?_cons_succ]; rfl)
      try simp only [Act.put]
      go_wp2_with fail
      refine QK.normal ⟨(rangeW_blk HY21.out.2.1), ?_⟩
      refine wpAnyH_done (by kernel_rfl) ?_ _
      refine NoPanic.normal ?_
      go_wp2_with fail
      go_ret
      exact ⟨by rw [HE.out]; rfl, HY21.out.1⟩
    · skip
      try simp only [Act.put]
      go_wp2_with (first
    | (with_reducible refine wpList_load_any rfl 24 (.tmp 3) rfl a1.heap.size 0 rfl (tmC k' u' n' s' (.slice bo m d)) _ (rangeW_blk HY16.out.2.2) Try.underlying24 rfl (tmC_info _ _ _ _ _) ?_)
    | ((with_reducible refine wpList_load_want ?_ 24 (.tmp 3) rfl a1.heap.size 0 rfl (tmC k' u' n' s' (.slice bo m d)) _ (rangeW_blk HY16.out.2.2) Try.underlying24 rfl (tmC_info _ _ _ _ _) ?_); focus rfl))
      refine QK.normal ⟨(rangeW_blk HY16.out.2.1), ?_⟩
      refine' wpAnyH_one 10 (by kernel_rfl) ?_ ?_; rotate_left; (simp only [List.getElem?_toArray, List.getElem?_cons_zero, List.getElem?_cons_succ]; rfl)
      try simp only [Act.put]
      go_wp2_with fail
      have hx := put_any a _ _ y15.heap.size (.slice none 0 0) [] y15 GA0.out.1 (HA.out.below HY16.out.1) (fun j _ e => by cases e) (Nat.le_refl _) (World.ownsRow_nil _ _ _ _) (by have := GA0.out.2.2.2; simp; omega)
      rw [List.nil_append] at hx
      refine Calls.mono hx ?_
      clear hx
      rintro e' y23 ⟨n25o, n25c, rfl, hrow, hgw⟩
      generalize (bytesT a).length = n25l at hrow hgw ⊢
      have HY24 := Lib.hid (show Below w.heap.size w y23 ∧ Blk y23 w.heap.size 24 (tmC k u n s (.slice ao l c)) ∧ Blk y23 a1.heap.size 24 (tmC k' u' n' s' (.slice bo m d)) ∧ Sl y23 (.slice n25o n25l n25c) (ofK .u8 (bytesT a)) from ⟨below_thn HY16.out.1 hgw.nil (Nat.le_refl _), HY16.out.2.1.below hgw.nil HY16.out.2.1.lt, HY16.out.2.2.below hgw.nil HY16.out.2.2.lt, Sl.of_owns hrow⟩)
      clear hrow hgw
      go_wp2_with fail
      refine QK.normal ⟨(rangeW_blk HY24.out.2.1), ?_⟩
      refine' wpAnyH_one 12 (by kernel_rfl) ?_ ?_; rotate_left; (simp only [List.getElem?_toArray, List.getElem?_cons_zero, List.getElem?_cons_succ]; rfl)
      try simp only [Act.put]
      go_wp2_with fail
      have hx := put_any b _ _ y23.heap.size (.slice none 0 0) [] y23 GB0.out.1 (HB.out.below HY24.out.1) (fun j _ e => by cases e) (Nat.le_refl _) (World.ownsRow_nil _ _ _ _) (by have := GB0.out.2.2.2; simp; omega)
      rw [List.nil_append] at hx
      refine Calls.mono hx ?_
      clear hx
      rintro e' y26 ⟨n28o, n28c, rfl, hrow, hgw⟩
      generalize (bytesT b).length = n28l at hrow hgw ⊢
      have HY27 := Lib.hid (show Below w.heap.size w y26 ∧ Blk y26 w.heap.size 24 (tmC k u n s (.slice ao l c)) ∧ Blk y26 a1.heap.size 24 (tmC k' u' n' s' (.slice bo m d)) ∧ Sl y26 (.slice n25o n25l n25c) (ofK .u8 (bytesT a)) ∧ Sl y26 (.slice n28o n28l n28c) (ofK .u8 (bytesT b)) from ⟨below_thn HY24.out.1 hgw.nil (Nat.le_refl _), HY24.out.2.1.below hgw.nil HY24.out.2.1.lt, HY24.out.2.2.1.below hgw.nil HY24.out.2.2.1.lt, HY24.out.2.2.2.below hgw.nil (Nat.le_refl _), Sl.of_owns hrow⟩)
      clear hrow hgw
      go_wp2_with fail
      refine QK.normal ⟨(rangeW_blk HY27.out.2.1), ?_⟩
      refine' wpAnyH_one 13 (by kernel_rfl) ?_ ?_; rotate_left; (simp only [List.getElem?_toArray, List.getElem?_cons_zero, List.getElem?_cons_succ]; rfl)
      try simp only [Act.put]
      go_wp2_with fail
      refine (compare_of _ _ (bytesT a) (bytesT b) z y26 HY27.out.2.2.2.1 HY27.out.2.2.2.2 HZ.out).mono ?_
      rintro e' w' ⟨rfl, rfl⟩
      go_wp2_with fail
      refine QK.normal ⟨(rangeW_blk HY27.out.2.1), ?_⟩
      refine' wpAnyH_one 14 (by kernel_rfl) ?_ ?_; rotate_left; (simp only [List.getElem?_toArray, List.getElem?_cons_zero, List.getElem?_cons_succ]; rfl)
      try simp only [Act.put]
      go_wp2_with fail
      refine QK.normal ⟨(rangeW_blk HY27.out.2.1), ?_⟩
      refine' wpAnyH_one 15 (by kernel_rfl) ?_ ?_; rotate_left; (simp only [List.getElem?_toArray, List.getElem?_cons_zero, List.getElem?_cons_succ]; rfl)
      try simp only [Act.put]
      go_wp2_with fail
      refine QK.normal ⟨(rangeW_blk HY27.out.2.1), ?_⟩
      refine' wpAnyH_one 16 (by kernel_rfl) ?_ ?_; rotate_left; (simp only [List.getElem?_toArray, List.getElem?_cons_zero, List.getElem?_cons_succ]; rfl)
      try simp only [Act.put]
      go_wp2_with fail
      refine QK.normal ⟨(rangeW_blk HY27.out.2.1), ?_⟩
      refine wpAnyH_done (by kernel_rfl) ?_ _
      refine NoPanic.normal ?_
      go_wp2_with fail
      go_ret
      exact ⟨by rw [HE.out]; rfl, HY27.out.1⟩
  · skip
    try simp only [Act.put]
    go_wp2_with (first
    | (with_reducible refine wpList_load_any rfl 24 (.tmp 3) rfl a1.heap.size 0 rfl (tmC k' u' n' s' (.slice bo m d)) _ (rangeW_blk HY16.out.2.2) Try.underlying24 rfl (tmC_info _ _ _ _ _) ?_)
    | ((with_reducible refine wpList_load_want ?_ 24 (.tmp 3) rfl a1.heap.size 0 rfl (tmC k' u' n' s' (.slice bo m d)) _ (rangeW_blk HY16.out.2.2) Try.underlying24 rfl (tmC_info _ _ _ _ _) ?_); focus rfl))
    refine QK.normal ⟨(rangeW_blk HY16.out.2.1), ?_⟩
    refine' wpAnyH_one 9 (by kernel_rfl) ?_ ?_; rotate_left; (simp only [List.getElem?_toArray, List.getElem?_cons_zero, List.getElem?_cons_succ]; rfl)
    try simp only [Act.put]
    go_wp2_with (first
    | (with_reducible refine wpList_load_any rfl 24 (.tmp 2) rfl w.heap.size 0 rfl (tmC k u n s (.slice ao l c)) _ (rangeW_blk HY16.out.2.1) Try.underlying24 rfl (tmC_info _ _ _ _ _) ?_)
    | ((with_reducible refine wpList_load_want ?_ 24 (.tmp 2) rfl w.heap.size 0 rfl (tmC k u n s (.slice ao l c)) _ (rangeW_blk HY16.out.2.1) Try.underlying24 rfl (tmC_info _ _ _ _ _) ?_); focus rfl))
    refine QK.normal ⟨(rangeW_blk HY16.out.2.1), ?_⟩
    refine' wpAnyH_one 10 (by kernel_rfl) ?_ ?_; rotate_left; (simp only [List.getElem?_toArray, List.getElem?_cons_zero, List.getElem?_cons_succ]; rfl)
    try simp only [Act.put]
    go_wp2_with fail
    have hx := put_any a _ _ y15.heap.size (.slice none 0 0) [] y15 GA0.out.1 (HA.out.below HY16.out.1) (fun j _ e => by cases e) (Nat.le_refl _) (World.ownsRow_nil _ _ _ _) (by have := GA0.out.2.2.2; simp; omega)
    rw [List.nil_append] at hx
    refine Calls.mono hx ?_
    clear hx
    rintro e' y29 ⟨n31o, n31c, rfl, hrow, hgw⟩
    generalize (bytesT a).length = n31l at hrow hgw ⊢
    have HY30 := Lib.hid (show Below w.heap.size w y29 ∧ Blk y29 w.heap.size 24 (tmC k u n s (.slice ao l c)) ∧ Blk y29 a1.heap.size 24 (tmC k' u' n' s' (.slice bo m d)) ∧ Sl y29 (.slice n31o n31l n31c) (ofK .u8 (bytesT a)) from ⟨below_thn HY16.out.1 hgw.nil (Nat.le_refl _), HY16.out.2.1.below hgw.nil HY16.out.2.1.lt, HY16.out.2.2.below hgw.nil HY16.out.2.2.lt, Sl.of_owns hrow⟩)
    clear hrow hgw
    go_wp2_with fail
    refine QK.normal ⟨(rangeW_blk HY30.out.2.1), ?_⟩
    refine' wpAnyH_one 12 (by kernel_rfl) ?_ ?_; rotate_left; (simp only [List.getElem?_toArray, List.getElem?_cons_zero, List.getElem?_cons_succ]; rfl)
    try simp only [Act.put]
    go_wp2_with fail
    have hx := put_any b _ _ y29.heap.size (.slice none 0 0) [] y29 GB0.out.1 (HB.out.below HY30.out.1) (fun j _ e => by cases e) (Nat.le_refl _) (World.ownsRow_nil _ _ _ _) (by have := GB0.out.2.2.2; simp; omega)
    rw [List.nil_append] at hx
    refine Calls.mono hx ?_
    clear hx
    rintro e' y32 ⟨n34o, n34c, rfl, hrow, hgw⟩
    generalize (bytesT b).length = n34l at hrow hgw ⊢
    have HY33 := Lib.hid (show Below w.heap.size w y32 ∧ Blk y32 w.heap.size 24 (tmC k u n s (.slice ao l c)) ∧ Blk y32 a1.heap.size 24 (tmC k' u' n' s' (.slice bo m d)) ∧ Sl y32 (.slice n31o n31l n31c) (ofK .u8 (bytesT a)) ∧ Sl y32 (.slice n34o n34l n34c) (ofK .u8 (bytesT b)) from ⟨below_thn HY30.out.1 hgw.nil (Nat.le_refl _), HY30.out.2.1.below hgw.nil HY30.out.2.1.lt, HY30.out.2.2.1.below hgw.nil HY30.out.2.2.1.lt, HY30.out.2.2.2.below hgw.nil (Nat.le_refl _), Sl.of_owns hrow⟩)
    clear hrow hgw
    go_wp2_with fail
    refine QK.normal ⟨(rangeW_blk HY33.out.2.1), ?_⟩
    refine' wpAnyH_one 13 (by kernel_rfl) ?_ ?_; rotate_left; (simp only [List.getElem?_toArray, List.getElem?_cons_zero, List.getElem?_cons_succ]; rfl)
    try simp only [Act.put]
    go_wp2_with fail
    refine (compare_of _ _ (bytesT a) (bytesT b) z y32 HY33.out.2.2.2.1 HY33.out.2.2.2.2 HZ.out).mono ?_
    rintro e' w' ⟨rfl, rfl⟩
    go_wp2_with fail
    refine QK.normal ⟨(rangeW_blk HY33.out.2.1), ?_⟩
    refine' wpAnyH_one 14 (by kernel_rfl) ?_ ?_; rotate_left; (simp only [List.getElem?_toArray, List.getElem?_cons_zero, List.getElem?_cons_succ]; rfl)
    try simp only [Act.put]
    go_wp2_with fail
    refine QK.normal ⟨(rangeW_blk HY33.out.2.1), ?_⟩
    refine' wpAnyH_one 15 (by kernel_rfl) ?_ ?_; rotate_left; (simp only [List.getElem?_toArray, List.getElem?_cons_zero, List.getElem?_cons_succ]; rfl)
    try simp only [Act.put]
    go_wp2_with fail
    refine QK.normal ⟨(rangeW_blk HY33.out.2.1), ?_⟩
    refine' wpAnyH_one 16 (by kernel_rfl) ?_ ?_; rotate_left; (simp only [List.getElem?_toArray, List.getElem?_cons_zero, List.getElem?_cons_succ]; rfl)
    try simp only [Act.put]
    go_wp2_with fail
    refine QK.normal ⟨(rangeW_blk HY33.out.2.1), ?_⟩
    refine wpAnyH_done (by kernel_rfl) ?_ _
    refine NoPanic.normal ?_
    go_wp2_with fail
    go_ret
    exact ⟨by rw [HE.out]; rfl, HY33.out.1⟩


end Go.Proofs.Ytfenikoajadiaaa
