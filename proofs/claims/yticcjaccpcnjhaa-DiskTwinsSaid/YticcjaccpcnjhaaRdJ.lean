/-
  The reference's disk: Ask as a whole, beside the disk's own answer. Conditions: numbers of their kinds; at most 2^30 lines and acts.
-/
import Derived.Test.YticcjaccpcnjhaaRdI
namespace Go.Proofs.Yticcjaccpcnjhaa
open Go Go.RowKit

theorem RefOf.same {x y : Dk} {st : List Wr} {fm : Nat} (h : RefOf x st fm) (hl : y.loose = x.loose) (hf : y.firm = x.firm) : RefOf y st fm where
  le := h.le
  loose := by rw [hl]; exact h.loose
  firm := fun i => by rw [hf]; exact h.firm i
  blk := h.blk
theorem RefOf.push {x y : Dk} {st : List Wr} {fm : Nat} (h : RefOf x st fm) {e : Wr} (he : IsB e.2) (hl : y.loose = x.loose ++ [e]) (hf : y.firm = x.firm) : RefOf y (st ++ [e]) fm where
  le := by have := h.le; rw [List.length_append]; omega
  loose := by rw [hl, h.loose, List.drop_append_of_le_length h.le]
  firm := fun i => by rw [hf, List.take_append_of_le_length h.le]; exact h.firm i
  blk := isB_snoc h.blk he
theorem RefOf.sync {x y : Dk} {st : List Wr} {fm : Nat} (h : RefOf x st fm) (hl : y.loose = []) (hf : y.firm = sF (fun _ => true) x.firm x.loose x.loose.length) : RefOf y st st.length where
  le := Nat.le_refl _
  loose := by rw [hl, List.drop_length]
  firm := fun i => by
    rw [hf, sF_all _ _ _ (Nat.le_refl _), List.take_length, List.take_length, ← h.holds i]; rfl
  blk := h.blk

/-- the reference's answer: the disk y, the number m -/
def RefP (w : World) (sv : Value) (N : Nat) (y : Dk) (m : Int) (e : Ending) (w' : World) : Prop :=
  ∃ sv' st' fm', e = .returned (.tuple #[.agg (rC y fm' sv').toArray, .int .i64 m]) ∧ StAt w' sv' st' ∧ RefOf y st' fm' ∧ st'.length ≤ N ∧ (∀ k, sv'.ownBlock = some k → sv.ownBlock = some k ∨ (w.heap.size ≤ k ∧ k < w'.heap.size)) ∧ Below w.heap.size w w'

theorem fin_loose {x x3 : Dk} {i : Int} {l : Bool} : (finD x i l x3).loose = if askE x i l = 0 then x3.loose else x.loose := by
  unfold finD; split
  · rfl
  · exact askD_loose x i l
theorem fin_firm {x x3 : Dk} {i : Int} {l : Bool} : (finD x i l x3).firm = if askE x i l = 0 then x3.firm else x.firm := by
  unfold finD; split
  · rfl
  · exact askD_firm x i l

section
variable {x : Dk} {fm n : Nat} {sv : Value} {st : List Wr} {w : World}

theorem askSame_ref {y : Dk} {m : Int} {e : Ending} {w' : World} (h : AskSame w y fm sv m e w') (hs : StAt w sv st) (hr : RefOf y st fm) : RefP w sv (st.length + 1) y m e w' :=
  ⟨sv, st, fm, h.1, hs.below h.2, hr, by omega, fun k hk => .inl hk, h.2⟩
theorem same_ref {y y' : Dk} {m m' : Int} {e : Ending} {w' : World} (he : y = y') (hm : m = m') (h : RefP w sv n y m e w') : RefP w sv n y' m' e w' := by subst he hm; exact h
theorem cells_ref {y : Dk} {m : Int} {e : Ending} {w' : World} {L : List Value} (hL : L = rC y fm sv) (h : e = .returned (.tuple #[.agg L.toArray, .int .i64 m]) ∧ Below w.heap.size w w') (hs : StAt w sv st) (hr : RefOf y st fm) : RefP w sv (st.length + 1) y m e w' := by
  subst hL; exact ⟨sv, st, fm, h.1, hs.below h.2, hr, by omega, fun k hk => .inl hk, h.2⟩

theorem rask_rd (at_ : Int) (b : List Int) (y : Dk) (m : Int) (hs : StAt w sv st) (hr : RefOf x st fm) (hx : x.Ok n) (hn : n ≤ 1073741824) (hy : readD x at_ = y) (hm : askE x at_ false = m) :
    Calls Try.prog 49 #[.agg (rC x fm sv).toArray, .int .i64 0, .int .i64 at_, .agg (ofK .u8 b).toArray] w (RefP w sv (st.length + 1) y m) := by
  subst hy hm
  have hs' := hs
  obtain ⟨ao, c, rfl, -⟩ := hs'
  have hR : RefOf (readD x at_) st fm := hr.same (by unfold readD; rw [fin_loose, askD_loose]; split <;> rfl) (by unfold readD; rw [fin_firm, askD_firm]; split <;> rfl)
  by_cases ho : x.out = true
  · refine (rask_out x fm ao st.length c 0 at_ b w ho).mono (fun e w' h => ?_)
    exact same_ref (dead_fin ho at_ false).symm (dead_ask ho at_ false).1.symm (askSame_ref h hs hr)
  · have ho : x.out = false := by simpa using ho
    by_cases hin : 0 ≤ at_ ∧ at_ < x.size
    · by_cases hf : x.fails = 0
      · have ha := ask_hit (l := false) ho hin.1 hin.2 hf
        have e1 : readD x at_ = { x with fails := -1 } := by unfold readD; rw [fin_not (by rw [ha.1]; omega), ha.2]
        rw [e1] at hR ⊢
        rw [ha.1]
        exact (rask_hit x fm ao st.length c 0 at_ b w ho (.inr ⟨by omega, hin⟩) hf _ rfl).mono (fun e w' h => askSame_ref h hs hR)
      · have ha := ask_in (l := false) ho hin.1 hin.2 hf (fun h => by cases h)
        have e1 : readD x at_ = { x with fails := decF x.fails, ops := x.ops + 1 } := by unfold readD; rw [fin_ok ha.1, ha.2]; rfl
        rw [e1] at hR ⊢
        rw [ha.1, rC_rQ, ho]
        exact (rask_read x.size fm x.arms x.fails x.ops ao st.length c at_ b w hin.1 hin.2 hf hx.fails1 hx.fails2 hx.ops1 (by have := hx.ops2; omega)).mono (fun e w' h => cells_ref rfl h hs (hr.same rfl rfl))
    · have ha := ask_out (l := false) ho hin
      have e1 : readD x at_ = x := by unfold readD; rw [fin_not (by rw [ha.1]; omega), ha.2]
      rw [e1, ha.1]
      exact (rask_arg x fm ao st.length c 0 at_ b w ho (by omega) hin).mono (fun e w' h => askSame_ref h hs hr)

theorem rask_wr (at_ : Int) (b : List Int) (y : Dk) (m : Int) (hs : StAt w sv st) (hr : RefOf x st fm) (hx : x.Ok n) (hn : n ≤ 1073741824) (hl : st.length ≤ 1073741824) (hb : IsB b) (hy : writeD x at_ b = y) (hm : askE x at_ true = m) :
    Calls Try.prog 49 #[.agg (rC x fm sv).toArray, .int .i64 1, .int .i64 at_, .agg (ofK .u8 b).toArray] w (RefP w sv (st.length + 1) y m) := by
  subst hy hm
  have hs' := hs
  obtain ⟨ao, c, rfl, -⟩ := hs'
  by_cases ho : x.out = true
  · refine (rask_out x fm ao st.length c 1 at_ b w ho).mono (fun e w' h => ?_)
    exact same_ref (dead_fin ho at_ true).symm (dead_ask ho at_ true).1.symm (askSame_ref h hs hr)
  · have ho : x.out = false := by simpa using ho
    by_cases hin : 0 ≤ at_ ∧ at_ < x.size
    · by_cases hf : x.fails = 0
      · have ha := ask_hit (l := true) ho hin.1 hin.2 hf
        have e1 : writeD x at_ b = { x with fails := -1 } := by unfold writeD; rw [fin_not (by rw [ha.1]; omega), ha.2]
        rw [e1, ha.1]
        exact (rask_hit x fm ao st.length c 1 at_ b w ho (.inr ⟨by omega, hin⟩) hf _ rfl).mono (fun e w' h => askSame_ref h hs (hr.same rfl rfl))
      · by_cases har : x.arms = 0
        · have ha := ask_die ho hin.1 hin.2 hf har
          have e1 : writeD x at_ b = { x with fails := decF x.fails, arms := -1, out := true } := by unfold writeD; rw [fin_not (by rw [ha.1]; omega), ha.2]
          rw [e1, ha.1, rC_rQ, ho, har]
          exact (rask_die1 x.size fm x.fails x.ops ao st.length c at_ b w hin.1 hin.2 hf hx.fails1 hx.fails2).mono (fun e w' h => cells_ref rfl h hs (hr.same rfl rfl))
        · have ha := ask_in (l := true) ho hin.1 hin.2 hf (fun _ => har)
          have e1 : writeD x at_ b = { x with fails := decF x.fails, arms := decF x.arms, loose := x.loose ++ [(at_, b)], ops := x.ops + 1 } := by unfold writeD; rw [fin_ok ha.1, ha.2]; rfl
          rw [e1, ha.1, rC_rQ, ho]
          refine (rask_write x.size fm x.arms x.fails x.ops _ st at_ b w hs hr.blk hl hb hin.1 hin.2 hf hx.fails1 hx.fails2 har hx.arms1 hx.arms2 hx.ops1 (by have := hx.ops2; omega)).mono ?_
          rintro e w' ⟨sv', h1, h2, h4, h3⟩
          exact ⟨sv', st ++ [(at_, b)], fm, by rw [h1, rC_rQ], h2, hr.push hb rfl rfl, by rw [List.length_append]; exact Nat.le_refl _, fun k hk => .inr (h4 k hk), h3⟩
    · have ha := ask_out (l := true) ho hin
      have e1 : writeD x at_ b = x := by unfold writeD; rw [fin_not (by rw [ha.1]; omega), ha.2]
      rw [e1, ha.1]
      exact (rask_arg x fm ao st.length c 1 at_ b w ho (by omega) hin).mono (fun e w' h => askSame_ref h hs hr)

theorem rask_sy (at_ : Int) (b : List Int) (y : Dk) (m : Int) (hs : StAt w sv st) (hr : RefOf x st fm) (hx : x.Ok n) (hn : n ≤ 1073741824) (hy : syncD x = y) (hm : askE x 0 true = m) :
    Calls Try.prog 49 #[.agg (rC x fm sv).toArray, .int .i64 2, .int .i64 at_, .agg (ofK .u8 b).toArray] w (RefP w sv (st.length + 1) y m) := by
  subst hy hm
  have hs' := hs
  obtain ⟨ao, c, rfl, -⟩ := hs'
  have h0 : (0 : Int) ≤ 0 := Int.le_refl 0
  have h1 : (0 : Int) < x.size := by have := hx.size1; omega
  by_cases ho : x.out = true
  · refine (rask_out x fm ao st.length c 2 at_ b w ho).mono (fun e w' h => ?_)
    exact same_ref (dead_fin ho 0 true).symm (dead_ask ho 0 true).1.symm (askSame_ref h hs hr)
  · have ho : x.out = false := by simpa using ho
    by_cases hf : x.fails = 0
    · have ha := ask_hit (l := true) ho h0 h1 hf
      have e1 : syncD x = { x with fails := -1 } := by unfold syncD; rw [fin_not (by rw [ha.1]; omega), ha.2]
      rw [e1, ha.1]
      exact (rask_hit x fm ao st.length c 2 at_ b w ho (.inl rfl) hf _ rfl).mono (fun e w' h => askSame_ref h hs (hr.same rfl rfl))
    · by_cases har : x.arms = 0
      · have ha := ask_die ho h0 h1 hf har
        have e1 : syncD x = { x with fails := decF x.fails, arms := -1, out := true } := by unfold syncD; rw [fin_not (by rw [ha.1]; omega), ha.2]
        rw [e1, ha.1, rC_rQ, ho, har]
        exact (rask_die2 x.size fm x.fails x.ops ao st.length c at_ b w hf hx.fails1 hx.fails2).mono (fun e w' h => cells_ref rfl h hs (hr.same rfl rfl))
      · have ha := ask_in (l := true) ho h0 h1 hf (fun _ => har)
        have e1 : syncD x = { x with fails := decF x.fails, arms := decF x.arms, firm := sF (fun _ => true) x.firm x.loose x.loose.length, loose := [], ops := x.ops + 1 } := by unfold syncD; rw [fin_ok ha.1, ha.2]; rfl
        rw [e1, ha.1, rC_rQ, ho]
        refine (rask_sync x.size fm x.arms x.fails x.ops ao st.length c at_ b w hf hx.fails1 hx.fails2 har hx.arms1 hx.arms2 hx.ops1 (by have := hx.ops2; omega)).mono ?_
        rintro e w' ⟨h1, h3⟩
        exact ⟨.slice ao st.length c, st, st.length, by rw [h1, rC_rQ], hs.below h3, hr.sync rfl rfl, by omega, fun k hk => .inl hk, h3⟩
end

end Go.Proofs.Yticcjaccpcnjhaa
