/-
  slices.DeleteFunc at ints, perm.without, walked. Conditions: the slice is the call's own; what strikes reads other blocks alone.
-/
import Derived.Test.YtampheimonmggaaPmF
import Derived.Laws.IdiomCopy
namespace Go.Proofs.Ytampheimonmggaa
open Go Go.RowKit Go.Sort
set_option linter.unusedSimpArgs false

theorem Ch.setCells (b : Nat) : ∀ (vs : List Value) (o : Nat) (w : World), Ch (· = b) w (w.setCells b o vs)
  | [], _, w => Ch.refl _ w
  | v :: r, o, w => (Ch.set w ⟨b, o, none⟩ v).trans (Ch.setCells b r (o + 1) _)

theorem idxG_spec (P : Int → Bool) : ∀ (l : List Int) (i : Nat), (idxG P l i = -1 ∧ ∀ y ∈ l, P y = false) ∨ ∃ k, ∃ (h : k < l.length), idxG P l i = ((i + k : Nat) : Int) ∧ P l[k] = true ∧ ∀ j (hj : j < k), P (l[j]'(by omega)) = false
  | [], i => .inl ⟨rfl, fun y h => by cases h⟩
  | x :: t, i => by
    by_cases h : P x = true
    · exact .inr ⟨0, by simp, by unfold idxG; rw [if_pos h]; rfl, h, fun j hj => by omega⟩
    · have hx := Bool.eq_false_iff.2 h
      rcases idxG_spec P t (i + 1) with ⟨e, ha⟩ | ⟨k, hk, e, ht, ha⟩
      · refine .inl ⟨by unfold idxG; rw [if_neg h]; exact e, fun y hy => ?_⟩
        rcases List.mem_cons.1 hy with rfl | hy
        · exact hx
        · exact ha y hy
      · refine .inr ⟨k + 1, by simpa using hk, by unfold idxG; rw [if_neg h, e]; congr 1; omega, by simpa using ht, fun j hj => ?_⟩
        cases j with
        | zero => simpa using hx
        | succ j => simpa using ha j (by omega)

def keepL (P : Int → Bool) (l : List Int) : List Int := l.filter (fun y => !P y)
theorem keepL_all {P : Int → Bool} {l : List Int} (h : ∀ y ∈ l, P y = false) : keepL P l = l := List.filter_eq_self.2 (fun y hy => by rw [h y hy]; rfl)
theorem keepL_succ (P : Int → Bool) (l : List Int) (j : Nat) (h : j < l.length) : keepL P (l.take (j + 1)) = keepL P (l.take j) ++ if P l[j] = true then [] else [l[j]] := by
  unfold keepL
  rw [List.take_succ_eq_append_getElem h, List.filter_append]
  by_cases hp : P l[j] = true <;> simp [hp]
theorem ofK_app (l k : List Int) : ofK .i64 (l ++ k) = ofK .i64 l ++ ofK .i64 k := by simp [ofK]

theorem set_take (X : List Value) (i : Nat) (u : Value) (h : i < X.length) : (X.set i u).take (i + 1) = X.take i ++ [u] := by
  rw [List.take_succ_eq_append_getElem (by rw [List.length_set]; exact h), List.getElem_set_self, List.take_set_of_le (Nat.le_refl _)]
theorem set_rest (X : List Value) (i t : Nat) (u : Value) (h : i + 1 ≤ t) : (X.set i u)[t]? = X[t]? := List.getElem?_set_ne (by omega)

set_option maxRecDepth 100000 in
set_option maxHeartbeats 4000000 in
theorem delete_any (base : Nat) (P : Int → Bool) (gf : Nat) (lb : List Value) (v : Value) (l : List Int) (w : World) (hv : w.ownsRow base 3 1 v l.length (ofK .i64 l)) (hb : base ≤ w.heap.size) (hl : l.length ≤ 1000000)
    (hcf : ∀ args w1, Sem.run Try.prog (callFunc gf args) w1 = .ok (.enter gf args) w1) (hst : ∀ (n : Int) (w1 : World), Ch (fun k => v.ownBlock = some k) w w1 → Calls Try.prog gf (.int .i64 n :: lb).toArray w1 (fun e w' => e = .returned (.bool (P n)) ∧ w1 = w')) :
    Calls Try.prog 51 #[v, .func (.func gf) #[] lb.toArray] w (InsP base w (keepL P l)) := by
  have HI := Lib.hid (indexF_any P gf lb v l w (Sl.of_owns hv) hcf (fun n => hst n w (Ch.refl _ _)))
  rcases idxG_spec P l 0 with ⟨e, hall⟩ | ⟨k0, hk0, e, hp0, hall⟩
  · rw [e] at HI
    have HK := Lib.hid (keepL_all hall)
    have HV := Lib.hid hv
    obtain ⟨ao, c, rfl⟩ := own_shape hv
    have hcf' := hcf
    clear hall e hst hv
    go_enter Try.func51, Try.ntmps51
    go_wp2_with fail
    refine HI.out.mono ?_
    rintro e w' ⟨rfl, rfl⟩
    go_wp2_with fail
    go_ret
    exact ⟨_, _, _, rfl, by rw [HK.out]; exact Sl.of_owns HV.out, Below.refl _ _, fun k hk => (HV.out.lt k hk).1⟩
  · rw [e, Nat.zero_add] at HI
    obtain ⟨h1, ⟨rfl, h2⟩ | ⟨g, c, C, rfl, hg, hh, hnc, hcm, hcs, htk⟩⟩ := hv
    · omega
    have hblk : Blk w g 3 C.toList := hh
    rw [Nat.mul_one] at hcs htk
    obtain ⟨sp, hsp⟩ : ∃ sp, C.toList = ofK .i64 l ++ sp := ⟨C.toList.drop l.length, by rw [← htk, List.take_append_drop]⟩
    have hXl : C.toList.length = c := by simpa using hcs
    have hst0 : keepL P (l.take (k0 + 1)) = l.take k0 := by
      rw [keepL_succ P l k0 hk0, if_pos hp0, List.append_nil]
      refine keepL_all (fun y hy => ?_)
      obtain ⟨j, hj, rfl⟩ := List.mem_iff_getElem.1 hy
      rw [List.getElem_take]
      exact hall j (by rw [List.length_take] at hj; omega)
    obtain ⟨n, hn⟩ : ∃ n, l.length = n := ⟨_, rfl⟩
    have HN := Lib.hid hn
    rw [hn] at hk0 hl hnc HI ⊢
    have HB := Lib.hid (show Blk w g 3 C.toList ∧ C.toList.length = c ∧ C.toList = ofK .i64 l ++ sp ∧ base ≤ g ∧ base ≤ w.heap.size ∧ c ≤ 9223372036854775807 from ⟨hblk, hXl, hsp, hg, hb, by unfold maxLen at hcm; omega⟩)
    have HS := Lib.hid hst
    have H0 := Lib.hid (show keepL P (l.take (k0 + 1)) = l.take k0 ∧ C.toList.take k0 = ofK .i64 (l.take k0) from ⟨hst0, by rw [hsp, List.take_append_of_le_length (by rw [length_ofK, HN.out]; omega), take_ofK]⟩)
    have HKS := Lib.hid (keepL_succ P l)
    have hne : ((k0 : Int) == -1) = false := by simp
    have hcf' := hcf
    have hw0 : IntKind.i64.wrap ((k0 : Int) + 1) = ((k0 + 1 : Nat) : Int) := by rw [IntKind.wrap_i64]; omega
    have hwj : ∀ j : Nat, j < n → IntKind.i64.wrap ((j : Int) + 1) = ((j + 1 : Nat) : Int) := fun j hj => by rw [IntKind.wrap_i64]; omega
    have HWJ := Lib.hid hwj
    have hcz := HB.out.2.2.2.2.2
    clear hblk hcs htk hsp hXl hst0 hall hp0 e hh hcm hg hb h1 hst hn hwj
    go_enter Try.func51, Try.ntmps51
    go_wp2_with fail
    refine HI.out.mono ?_
    rintro e w' ⟨rfl, rfl⟩
    go_wp2_with fail
    go_loopw [5, 6, 7] (fun s5 s6 _ wr => ∃ (i j : Nat) (X : List Value), s5 = .int .i64 i ∧ s6 = .int .i64 j ∧ i < j ∧ j ≤ n ∧ Hid (Blk wr g 3 X ∧ X.length = c ∧ X.take i = ofK .i64 (keepL P (l.take j)) ∧ (keepL P (l.take j)).length = i ∧ (∀ t, i ≤ t → X[t]? = (ofK .i64 l ++ sp)[t]?) ∧ Ch (fun k => (Value.slice (some ⟨g, 0, none⟩) n c).ownBlock = some k) w wr)) (fun _ s6 _ _ => n - (intOf s6).toNat)
    case atStart => exact ⟨k0, k0 + 1, C.toList, rfl, by go_num, by omega, by omega, Lib.hid ⟨HB.out.1, HB.out.2.1, by rw [H0.out.1]; exact H0.out.2, by rw [H0.out.1, List.length_take, HN.out]; omega, fun t _ => by rw [← HB.out.2.2.1], Ch.refl _ _⟩⟩
    case round =>
      obtain ⟨i, j, X, rfl, rfl, hij, hjn, HX⟩ := hrel
      by_cases hlt : j < n
      · have hltz : (j : Int) < (n : Int) := by omega
        have hjl : j < l.length := by rw [HN.out]; exact hlt
        have hj0 : (0 : Int) ≤ (j : Int) := by omega
        have hi0 : (0 : Int) ≤ (i : Int) := by omega
        have hin : (i : Int) < (n : Int) := by omega
        have hks := HKS.out j hjl
        have hcj : wr.cell? ⟨g, j, none⟩ = some (.int .i64 l[j]) := by
          rw [HX.out.1.cell, HX.out.2.2.2.2.1 j (by omega), List.getElem?_append_left (by rw [length_ofK]; exact hjl), get_ofK _ _ _ hjl]
        have HC := Lib.hid (HS.out l[j] wr HX.out.2.2.2.2.2)
        generalize l[j] = y at hks hcj HC
        obtain ⟨py, hpy⟩ : ∃ b, P y = b := ⟨_, rfl⟩
        rw [hpy] at hks HC
        have hwj := HWJ.out j hlt
        have hwi := HWJ.out i (by omega)
        have hii : i < X.length := by rw [HX.out.2.1]; omega
        have hci : (wr.cell? ⟨g, i, none⟩).isSome = true := by rw [HX.out.1.cell, List.getElem?_eq_getElem hii]; rfl
        obtain ⟨old, hold⟩ : ∃ u, wr.cell? ⟨g, i, none⟩ = some u := Option.isSome_iff_exists.1 hci
        have hfi := HX.out.1.free i
        clear hpy hjl hii hci
        cases py
        · have HKE := Lib.hid (show keepL P (l.take (j + 1)) = keepL P (l.take j) ++ [y] by rw [hks, if_neg (by simp)])
          clear hks
          go_wp2_with fail
          refine HC.out.mono ?_
          rintro e w' ⟨rfl, rfl⟩
          go_wp2_with fail
          go_roundw
          case rel =>
            refine ⟨i + 1, j + 1, X.set i (.int .i64 y), by go_num, by go_num, by omega, by omega, Lib.hid ⟨HX.out.1.set i _, by rw [List.length_set]; exact HX.out.2.1, ?_, ?_, fun t ht => ?_, HX.out.2.2.2.2.2.setCell (p := ⟨g, i, none⟩) (.inl rfl) _⟩⟩
            · rw [set_take X i _ (by rw [HX.out.2.1]; omega), HKE.out, ofK_app, HX.out.2.2.1]; rfl
            · rw [HKE.out, List.length_append, HX.out.2.2.2.1]; rfl
            · rw [set_rest X i t _ ht]; exact HX.out.2.2.2.2.1 t (by omega)
          case measure => simp [intOf]; omega
        · have HKE := Lib.hid (show keepL P (l.take (j + 1)) = keepL P (l.take j) by rw [hks, if_pos rfl, List.append_nil])
          clear hks
          go_wp2_with fail
          refine HC.out.mono ?_
          rintro e w' ⟨rfl, rfl⟩
          go_wp2_with fail
          go_roundw
          case rel => exact ⟨i, j + 1, X, rfl, by go_num, by omega, by omega, Lib.hid ⟨HX.out.1, HX.out.2.1, by rw [HKE.out]; exact HX.out.2.2.1, by rw [HKE.out]; exact HX.out.2.2.2.1, HX.out.2.2.2.2.1, HX.out.2.2.2.2.2⟩⟩
          case measure => simp [intOf]; omega
      · obtain rfl : j = n := by omega
        have hltz : ¬ (j : Int) < (j : Int) := by omega
        have hi0 : (0 : Int) ≤ (i : Int) := by omega
        have hin : (i : Int) ≤ (j : Int) := by omega
        have hic : (i : Int) ≤ (c : Int) := by omega
        have hci : ¬ (c = i) := by omega
        have hcl : ∀ ty, (Builtin.clear_ #[22] ty #[.slice (some ⟨g, i, none⟩) (j - i) (c - i)]).run Try.prog wr = .ok (.tuple #[]) (wr.setCells g i (List.replicate (j - i) (.int .i64 0))) :=
          fun ty => Lib.run_clear_slice wr 22 3 ty (.int .i64 0) Try.underlying22 Try.zeroI rfl rfl g i _ _ (by omega) (fun t ht => by rw [HX.out.1.cell, List.getElem?_eq_getElem (by rw [HX.out.2.1]; omega)]; rfl) (fun t ht => HX.out.1.free _)
        have HE := Lib.hid (show Sl (wr.setCells g i (List.replicate (j - i) (.int .i64 0))) (.slice (some ⟨g, 0, none⟩) i c) (ofK .i64 (keepL P l)) ∧ Below base w (wr.setCells g i (List.replicate (j - i) (.int .i64 0))) from by
          have hkk : keepL P (l.take j) = keepL P l := by rw [List.take_of_length_le (by rw [HN.out]; exact Nat.le_refl _)]
          have h3 := HX.out.2.2.1
          have h4 := HX.out.2.2.2.1
          rw [hkk] at h3 h4
          refine ⟨.inr ⟨⟨g, 0, none⟩, c, by rw [length_ofK, h4], by rw [length_ofK, h4]; omega, by unfold maxLen; have := HB.out.2.2.2.2.2; omega, fun t u hu => ?_⟩, ?_⟩
          · have ht : t < i := by have := (List.getElem?_eq_some_iff.1 hu).1; rwa [length_ofK, h4] at this
            have e : (Addr.add ⟨g, 0, none⟩ t) = ⟨g, t, none⟩ := by unfold Addr.add; split <;> simp_all
            rw [e, World.cell?_setCells_out _ _ _ _ _ (fun _ _ => .inl ht), HX.out.1.cell, ← hu, ← h3, List.getElem?_take, if_pos ht]
          · refine below_ch (Below.refl base w) ((HX.out.2.2.2.2.2).trans' (T := (· = g)) ?_ (fun k _ hk => by rw [hk]; rfl)) HB.out.2.2.2.2.1 (fun k hk => by have e : some g = some k := hk; cases e; exact HB.out.2.2.2.1)
            exact Ch.setCells g _ _ _)
        clear hlt
        go_wp2_with fail
        go_ret
        exact ⟨_, _, _, rfl, HE.out.1, HE.out.2, fun k hk => by have e : some g = some k := hk; cases e; exact HB.out.2.2.2.1⟩

end Go.Proofs.Ytampheimonmggaa
