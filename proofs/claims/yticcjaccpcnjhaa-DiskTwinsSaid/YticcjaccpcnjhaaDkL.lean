/-
  Copy, walked. Conditions: at most 2^30 writes.
-/
import Derived.Test.YticcjaccpcnjhaaDkK
namespace Go.Proofs.Yticcjaccpcnjhaa
open Go Go.RowKit

/-- a copy of a whole row of elements of many cells into one of the same length -/
theorem wpList_copy_wide {P : Program} (w : World) {ops : Array Oper} {rest : List Oper} {o : Oper} {a : Act} {Q : Exit → Act → World → Prop} (hgd : o.guard = none) (d s : Operand) (t : TypeId)
    (ho : o.op = .call { callee := .builtin .copy, args := #[d, s], argTypes := #[t, t] }) (e : TypeId) (i : TypeInfo) (size : Nat) (hu : P.underlying t = some (.slice e)) (hi : P.info? e = some i) (hsz : i.size = size)
    (base g n : Nat) (zs : List Value) (hd : a.eval d = .slice (some ⟨g, 0, none⟩) n n) (hown : w.ownsRow base e size (.slice (some ⟨g, 0, none⟩) n n) n zs) (b0 : Nat) (v : Value) (xs : List Value) (hs : a.eval s = v) (hsrc : w.ownsRow b0 e size v n xs) (h1 : ∀ u ∈ xs, u.oneCell' = true)
    (h : ∀ w', w'.ownsRow base e size (.slice (some ⟨g, 0, none⟩) n n) n xs → Ch (· = g) w w' → w'.heap.size = w.heap.size → wpList P ops Q rest (a.put o.dst (goInt n)) w') : wpList P ops Q (o :: rest) a w := by
  subst hsz
  obtain ⟨k1, k2 | ⟨g', cap, cur, k3, k4, k5, k6, k7, k8, k9⟩⟩ := hown
  · cases k2.1
  · cases k3
    refine wpList_plain hgd fun K hK => ?_
    have key : ∃ w', (Builtin.copy_ #[t, t] o.type #[.slice (some ⟨g, 0, none⟩) n n, v]).run P w = .ok (goInt n) w' ∧ w'.ownsRow base e i.size (.slice (some ⟨g, 0, none⟩) n n) n xs ∧ Ch (· = g) w w' ∧ w'.heap.size = w.heap.size := by
      have hxl := hsrc.1
      obtain ⟨-, ⟨rfl, rfl⟩ | ⟨g2, cap2, cur2, rfl, q4, q5, q6, q7, q8, q9⟩⟩ := hsrc
      · have : xs = [] := List.eq_nil_of_length_eq_zero (by simpa using hxl)
        subst this
        refine ⟨w, ?_, ⟨by simp, .inr ⟨g, 0, cur, rfl, k4, k5, k6, k7, k8, by simp⟩⟩, Ch.refl _ _, rfl⟩
        exact run_copy_nil P w t t o.type e ⟨g, 0, none⟩ 0 0 hu (by simp [hi])
      · have hcells : ∀ j u, xs[j]? = some u → w.cell? ((⟨g2, 0, none⟩ : Addr).add j) = some u :=
          World.ownsRow.cells (w := w) (base := b0) (e := e) (size := i.size) (v := .slice (some ⟨g2, 0, none⟩) n cap2) (n := n) (xs := xs) ⟨hxl, .inr ⟨g2, cap2, cur2, rfl, q4, q5, q6, q7, q8, q9⟩⟩ rfl
        have hf := run_firstCells_some (P := P) w i.size n ⟨g2, 0, none⟩ n cap2 xs hxl hcells
        have hst := run_storeCells_at P g 0 e xs 0 cur w k5 (by simp [k8, hxl]) h1
        refine ⟨w.setRow g (cur.toList.take 0 ++ xs ++ cur.toList.drop (0 + xs.length)).toArray, ?_, ?_, ⟨rfl, rfl, rfl, by simp [World.setRow], fun k _ hne => setRow_other w g k _ hne⟩, by simp [World.setRow]⟩
        · have hmin : Nat.min n n = n := Nat.min_self n
          simp only [Nat.add_zero] at hst
          simp [Builtin.copy_, run_underlying hu, Builtin.lenOf, sizeOf, typeInfo, hi, hmin, hf, hst]
        · have hr := setRow_heap w g cur (cur.toList.take 0 ++ xs ++ cur.toList.drop (0 + xs.length)).toArray e (0, 0) k5
          have hdr : cur.toList.drop (0 + xs.length) = [] := List.drop_eq_nil_of_le (by simp [k8, hxl])
          rw [hdr] at hr ⊢
          refine ⟨hxl, .inr ⟨g, n, _, rfl, k4, hr, Nat.le_refl _, k7, by simp [hxl], by rw [← hxl]; simp⟩⟩
    obtain ⟨w', hrun, r1, r2, r3⟩ := key
    unfold Oper.wp
    simp [execOp, ho, resolve, invoke, builtin, hd, hs, hrun, Result.andThen]
    exact hK _ _ (h w' r1 r2 r3)

/-- how many entries an iterator has not handed out -/
def leftN (w : World) (r m : Nat) : Nat :=
  match w.heap[r]?, w.heap[m]? with
  | some (.mapIter _ _ seen _), some (.map es _) => (es.toList.filter (fun e => !seen.contains e.born)).length
  | _, _ => 0

theorem leftN_eq {w : World} {r m c : Nat} {seen : Array Nat} {es : Array MapEntry} (h1 : IterAt w r m c seen) (h2 : MapAt w m es c) : leftN w r m = (es.toList.filter (fun e => !seen.contains e.born)).length := by
  unfold IterAt at h1; unfold MapAt at h2; simp [leftN, h1, h2]

theorem left_less {seen : Array Nat} {l : List MapEntry} {e : MapEntry} (he : e ∈ l) (hn : e.born ∉ seen) :
    (l.filter (fun e' => !(seen.push e.born).contains e'.born)).length < (l.filter (fun e => !seen.contains e.born)).length := by
  induction l with
  | nil => cases he
  | cons y l ih =>
    have mono : ∀ l : List MapEntry, (l.filter (fun e' => !(seen.push e.born).contains e'.born)).length ≤ (l.filter (fun e => !seen.contains e.born)).length := by
      intro l
      induction l with
      | nil => simp
      | cons z l ih2 =>
        simp only [List.filter_cons]
        by_cases hz : z.born ∈ seen
        · simp [hz]; simpa using ih2
        · by_cases hz2 : z.born = e.born
          · simp [hz2, hn]; simp at ih2; omega
          · simp [hz, hz2]; simpa using ih2
    simp only [List.filter_cons]
    rcases List.mem_cons.1 he with rfl | he
    · have := mono l
      simp [hn]; simp at this; omega
    · have := ih he
      by_cases hz : y.born ∈ seen
      · simp [hz]; simpa using this
      · by_cases hz2 : y.born = e.born
        · simp [hz2, hn]; simp at this; omega
        · simp [hz, hz2]; simpa using this

/-- f reads the entries that were handed out -/
structure Seen (es : Array MapEntry) (seen : Array Nat) (z : Value) (f : Int → Value) : Prop where
  yes : ∀ e ∈ es.toList, ∀ j, e.key = .int .i64 j → e.born ∈ seen → f j = e.val
  no : ∀ e ∈ es.toList, ∀ j, e.key = .int .i64 j → e.born ∉ seen → f j = z
  off : ∀ j, (∀ e ∈ es.toList, e.key ≠ .int .i64 j) → f j = z

theorem nodup_inj {α β : Type} {l : List α} {g : α → β} (h : (l.map g).Nodup) {x y : α} (hx : x ∈ l) (hy : y ∈ l) (he : g x = g y) : x = y := by
  obtain ⟨i, hi, rfl⟩ := List.mem_iff_getElem.1 hx
  obtain ⟨j, hj, rfl⟩ := List.mem_iff_getElem.1 hy
  have : i = j := (List.getElem?_inj (l := l.map g) (by simpa using hi) h).1 (by simp [hi, hj, he])
  subst this; rfl

theorem Seen.push {es : Array MapEntry} {seen : Array Nat} {c : Nat} {z : Value} {f g : Int → Value} (h : Seen es seen z f) (hr : Reads .i64 es c z g) {e0 : MapEntry} (he : e0 ∈ es.toList) {j0 : Int} (hk : e0.key = .int .i64 j0) : Seen es (seen.push e0.born) z (setF f j0 e0.val) := by
  have hne : ∀ e ∈ es.toList, ∀ j, e.key = .int .i64 j → j ≠ j0 → e.born ≠ e0.born := fun e hm j hj hjj hb => by
    have := nodup_inj hr.st.2.1 hm he hb
    subst this
    rw [hk] at hj
    exact hjj (by simpa using hj.symm)
  refine ⟨fun e hm j hj hb => ?_, fun e hm j hj hb => ?_, fun j hj => ?_⟩
  · unfold setF
    by_cases hjj : j = j0
    · subst hjj
      rw [if_pos rfl, nodup_inj hr.st.2.2 hm he (by rw [hj, hk])]
    · rw [if_neg hjj]
      refine h.yes e hm j hj ?_
      rcases Array.mem_push.1 hb with hb | hb
      · exact hb
      · exact absurd hb (hne e hm j hj hjj)
  · unfold setF
    by_cases hjj : j = j0
    · subst hjj
      exact absurd (Array.mem_push.2 (.inr (by rw [nodup_inj hr.st.2.2 hm he (by rw [hj, hk])]))) hb
    · rw [if_neg hjj]
      exact h.no e hm j hj (fun hx => hb (Array.mem_push.2 (.inl hx)))
  · unfold setF
    rw [if_neg (by rintro rfl; exact hj e0 he hk)]
    exact h.off j hj

theorem Seen.all {es : Array MapEntry} {seen : Array Nat} {c : Nat} {z : Value} {f g : Int → Value} (h : Seen es seen z f) (hr : Reads .i64 es c z g) (ha : ∀ e ∈ es.toList, e.born ∈ seen) : f = g := by
  funext j
  by_cases he : ∃ e ∈ es.toList, e.key = .int .i64 j
  · obtain ⟨e, hm, hk⟩ := he
    rw [h.yes e hm j hk (ha e hm), hr.at_ e hm j hk]
  · have hn : ∀ e ∈ es.toList, e.key ≠ .int .i64 j := fun e hm hk => he ⟨e, hm, hk⟩
    rw [h.off j hn, hr.off j hn]

theorem Seen.none {es : Array MapEntry} {z : Value} : Seen es #[] z (fun _ => z) := ⟨fun _ _ _ _ h => by simp at h, fun _ _ _ _ _ => rfl, fun _ _ => rfl⟩

theorem copy_nil (w : World) : Calls Try.prog 19 #[.pointer none] w (fun e w' => e = .returned (.pointer none) ∧ w = w') := by
  go_enter Try.func19, Try.ntmps19
  go_wp2
  go_ret
  exact ⟨rfl, rfl⟩

theorem ownsRow_low {w : World} {base base' : Nat} {e : TypeId} {size : Nat} {v : Value} {n : Nat} {xs : List Value} (h : w.ownsRow base e size v n xs) (hb : base' ≤ base) : w.ownsRow base' e size v n xs := by
  obtain ⟨h1, h2 | ⟨g, cap, C, h3, h4, h5⟩⟩ := h
  · exact ⟨h1, .inl h2⟩
  · exact ⟨h1, .inr ⟨g, cap, C, h3, by omega, h5⟩⟩

/-- between two rounds of the copy -/
def CopyI (w : World) (es : Array MapEntry) (bl : List Value) (wr : World) (seen : Array Nat) : Prop :=
  Below w.heap.size w wr ∧ Blk wr w.heap.size 75 bl ∧ w.heap.size + 3 ≤ wr.heap.size ∧ ∃ f, MapF wr (w.heap.size + 1) .i64 (vB zer) f ∧ Seen es seen (vB zer) f

set_option maxRecDepth 100000 in
set_option maxHeartbeats 4000000 in
theorem copy_go (p : Nat) (S : Nat → Prop) (x : Dk) (n : Nat) (w : World) (m : Nat) (lv : Value) (al fl : Int) (h : DkAt' w p m lv al fl S x) (hx : x.Ok n) (hn : n ≤ 1073741824) :
    Calls Try.prog 19 #[.pointer (some ⟨p, 0, none⟩)] w (fun e w' => ∃ q, e = .returned (.pointer (some ⟨q, 0, none⟩)) ∧ DkAt w' q (fun k => w.heap.size ≤ k ∧ k < w'.heap.size) x ∧ Below w.heap.size w w') := by
  obtain ⟨ao, cp, rfl, -⟩ := own_wr h.row hx.looseB
  obtain ⟨i0, hi0, hz0, hz1, hz2⟩ := info_parts Try.infoWr
  obtain ⟨es, c, hM, hRd⟩ := h.firm
  have hmm := @run_makeMap Try.prog
  have hpl := Blk.lt h.blk
  have hcs := h.blk.cs
  have c0 := hcs.c0
  have c1 := hcs.c1
  have c2 := hcs.c2
  have c3 := hcs.c3
  have c8 := hcs.c8
  have c4 := hcs.arms.c0
  have c5 := hcs.arms.c1
  have c6 := hcs.fails.c0
  have c7 := hcs.fails.c1
  have hL : x.loose.length ≤ 1073741824 := Nat.le_trans hx.len hn
  have H := Lib.hid (And.intro h (And.intro hx (And.intro hn (And.intro hpl (And.intro hRd hM)))))
  have hA1 : ∀ o1 o2, ((w.alloc o1).alloc o2).cell? ⟨p, 0 + 1, none⟩ = some (.map (some m)) := fun o1 o2 =>
    ((((Below.refl w.heap.size w).alloc (Nat.le_refl _) o1).alloc (by simp) o2).cell (p := ⟨p, 0 + 1, none⟩) hpl).trans c1
  have HMA := Lib.hid (show ∀ o1 o2, MapAt ((w.alloc o1).alloc o2) m es c from fun o1 o2 => hM.keep (Ch.of_below (S := fun _ => False) ((((Below.refl w.heap.size w).alloc (Nat.le_refl _) o1).alloc (by simp) o2)) (Nat.le_refl _)) id)
  have HBA := Lib.hid (show Blk ((w.alloc (.cells #[.int .i64 x.size, .map (some (w.heap.size + 1)), .slice ao x.loose.length cp, .bool x.out, .bool (decide (0 ≤ x.arms)), .int .i64 al, .bool (decide (0 ≤ x.fails)), .int .i64 fl, .int .i64 x.ops] 75)).alloc (.map #[] 0)) w.heap.size 75 [.int .i64 x.size, .map (some (w.heap.size + 1)), .slice ao x.loose.length cp, .bool x.out, .bool (decide (0 ≤ x.arms)), .int .i64 al, .bool (decide (0 ≤ x.fails)), .int .i64 fl, .int .i64 x.ops] ∧
      MapF ((w.alloc (.cells #[.int .i64 x.size, .map (some (w.heap.size + 1)), .slice ao x.loose.length cp, .bool x.out, .bool (decide (0 ≤ x.arms)), .int .i64 al, .bool (decide (0 ≤ x.fails)), .int .i64 fl, .int .i64 x.ops] 75)).alloc (.map #[] 0)) (w.heap.size + 1) .i64 (vB zer) (fun _ => vB zer) ∧
      Below w.heap.size w ((w.alloc (.cells #[.int .i64 x.size, .map (some (w.heap.size + 1)), .slice ao x.loose.length cp, .bool x.out, .bool (decide (0 ≤ x.arms)), .int .i64 al, .bool (decide (0 ≤ x.fails)), .int .i64 fl, .int .i64 x.ops] 75)).alloc (.map #[] 0)) from by
    refine ⟨(Blk.new w _ _).alloc _, ⟨#[], 0, ?_, reads_empty _ _⟩, ((Below.refl w.heap.size w).alloc (Nat.le_refl _) _).alloc (by simp) _⟩
    have := heap_alloc_new (w.alloc (.cells #[.int .i64 x.size, .map (some (w.heap.size + 1)), .slice ao x.loose.length cp, .bool x.out, .bool (decide (0 ≤ x.arms)), .int .i64 al, .bool (decide (0 ≤ x.fails)), .int .i64 fl, .int .i64 x.ops] 75)) (.map #[] 0)
    rwa [World.size_alloc] at this)
  clear h hx hn hcs hpl hM hRd
  go_enter Try.func19, Try.ntmps19
  go_wp2_with (with_reducible refine wpList_range_map _ rfl (.tmp 23) 68 rfl Try.underlying68 m es c (HMA.out _ _) rfl ?_)
  intro w9 hI9 hbel9 hs9
  have hch9 := Ch.of_below (S := fun _ => False) hbel9 (by simp)
  have H9 := Lib.hid (And.intro hI9 (And.intro ((HMA.out _ _).keep hch9 id) (And.intro (HBA.out.2.2.trans (hbel9.mono (by omega))) (And.intro (HBA.out.2.1.keep hch9 id) (And.intro (HBA.out.1.keep hch9 id) (show w9.heap.size = w.heap.size + 3 from by rw [hs9]))))))
  clear hI9 hbel9 hs9 hch9 HMA HBA hA1 c0 c1 c2 c3 c4 c5 c6 c7 c8 hmm
  obtain ⟨bl, hbl⟩ : ∃ bl : List Value, bl = [.int .i64 x.size, .map (some (w.heap.size + 1)), .slice ao x.loose.length cp, .bool x.out, .bool (decide (0 ≤ x.arms)), .int .i64 al, .bool (decide (0 ≤ x.fails)), .int .i64 fl, .int .i64 x.ops] := ⟨_, rfl⟩
  have HBL := Lib.hid hbl
  rw [← hbl] at H9
  clear hbl
  go_wp2_with fail
  go_loopw [4, 5] (fun _ _ wr => ∃ seen : Array Nat, IterAt wr (w.heap.size + 1 + 1) m c seen ∧ MapAt wr m es c ∧ Hid (CopyI w es bl wr seen)) (fun _ _ wr => leftN wr (w.heap.size + 1 + 1) m)
  case atStart => exact ⟨#[], H9.out.1, H9.out.2.1, Lib.hid ⟨H9.out.2.2.1, H9.out.2.2.2.2.1, by have := H9.out.2.2.2.2.2; omega, _, H9.out.2.2.2.1, Seen.none⟩⟩
  case round =>
    obtain ⟨seen, hI, hM, HC⟩ := hrel
    have HLn := Lib.hid (leftN_eq hI hM)
    have hml : m < w.heap.size := H.out.2.2.2.2.2.lt
    have HST := Lib.hid (And.intro H.out.2.2.2.2.1.st.1 (And.intro H.out.2.2.2.2.1.st.2.1 (show w.heap.size + 1 + 1 ≠ m from by omega)))
    go_wp2_with (with_reducible refine wpList_next_map _ rfl (.tmp 24) rfl (w.heap.size + 1 + 1) m c seen es hI hM rfl HST.out.1 HST.out.2.1 HST.out.2.2 ?_ ?_)
    · intro hdone
      obtain ⟨hC1, hC2, hC3, f, hC4, hC5⟩ := HC.out
      have hf := hC5.all H.out.2.2.2.2.1 (fun e he => hdone e (by simpa using he))
      rw [hf] at hC4
      rw [HBL.out] at hC2
      have H1 := Lib.hid (And.intro hC1 (And.intro hC2 (And.intro hC3 hC4)))
      have d2 : wr.cell? ⟨p, 0 + 2, none⟩ = some (.slice ao x.loose.length cp) := (hC1.cell (p := ⟨p, 0 + 2, none⟩) H.out.2.2.2.1).trans H.out.1.blk.cs.c2
      clear hdone hI hM HLn hC1 hC2 hC3 hC4 hC5 hf HC HST
      have hgo : ∀ (L : Nat), L = x.loose.length → (i0.bytes * L ≤ 281474976710656 ∧ L ≤ maxLen) := fun L hL' => by unfold maxLen; rw [hz2, hL']; omega
      have HG := Lib.hid (hgo _ rfl)
      clear hgo
      go_wp2_with (first
        | (with_reducible refine wpList_make_full _ rfl (.tmp 43) (.tmp 43) 69 rfl w.heap.size 84 i0 _ 65 Try.underlying69 hi0 hz0 hz1 .i64 .i64 (x.loose.length : Int) (x.loose.length : Int) x.loose.length rfl rfl rfl rfl HG.out.1 HG.out.2 H1.out.1.size ?_))
      intro w14 hown14 hgr14
      have hc14 : Ch (fun _ => False) wr w14 := ⟨hgr14.os, hgr14.tape, hgr14.output, hgr14.size, fun k hk _ => hgr14.block k hk (by simp)⟩
      have e2 := (H1.out.2.1.keep hc14 id).free 2
      have g2 := (H1.out.2.1.keep hc14 id).cell 2
      have hb14 := hown14.lt _ rfl
      obtain ⟨zz, hzz⟩ : ∃ zz, w14.ownsRow w.heap.size 84 65 (.slice (some ⟨wr.heap.size, 0, none⟩) x.loose.length x.loose.length) x.loose.length zz := ⟨_, hown14⟩
      have H14 := Lib.hid (And.intro hzz (And.intro hc14 hb14))
      clear hzz
      have e2' : w14.frozen? ⟨w.heap.size, 0 + 2, none⟩ = false := by simpa using e2
      have g2' : w14.cell? ⟨w.heap.size, 0 + 2, none⟩ = some (.slice ao x.loose.length cp) := by simpa using g2
      clear hown14 hgr14 hc14 e2 g2 hb14
      go_wp2_with fail
      obtain ⟨nr, hnr⟩ : ∃ nr, nr = wr.heap.size := ⟨_, rfl⟩
      rw [← hnr]
      have hnr3 : w.heap.size + 3 ≤ nr := by rw [hnr]; exact H1.out.2.2.1
      have HN := Lib.hid hnr
      have hs15 : Blk (w14.setCell ⟨w.heap.size, 0 + 2, none⟩ (.slice (some ⟨nr, 0, none⟩) x.loose.length x.loose.length)) w.heap.size 75 [.int .i64 x.size, .map (some (w.heap.size + 1)), .slice (some ⟨nr, 0, none⟩) x.loose.length x.loose.length, .bool x.out, .bool (decide (0 ≤ x.arms)), .int .i64 al, .bool (decide (0 ≤ x.fails)), .int .i64 fl, .int .i64 x.ops] :=
        blk_set (H1.out.2.1.keep H14.out.2.1 id) 2 _ rfl
      have hc15 : Ch (· = w.heap.size) w14 (w14.setCell ⟨w.heap.size, 0 + 2, none⟩ (.slice (some ⟨nr, 0, none⟩) x.loose.length x.loose.length)) := Ch.set w14 ⟨w.heap.size, 0 + 2, none⟩ _
      obtain ⟨w15, hw15⟩ : ∃ w15, w14.setCell ⟨w.heap.size, 0 + 2, none⟩ (.slice (some ⟨nr, 0, none⟩) x.loose.length x.loose.length) = w15 := ⟨_, rfl⟩
      have hw15' : w14.setCell ⟨w.heap.size, 2, none⟩ (.slice (some ⟨nr, 0, none⟩) x.loose.length x.loose.length) = w15 := by rw [← hw15, Nat.zero_add]
      rw [hw15] at hs15 hc15
      try rw [hw15']
      try rw [hw15]
      have hcb : Ch (fun k => k = w.heap.size) wr w15 := (H14.out.2.1.mono (fun _ h => h.elim)).trans hc15
      have hbb : Below w.heap.size w w15 := below_ch H1.out.1 hcb (Nat.le_refl _) (fun k hk => by have : k = w.heap.size := hk; omega)
      have ha : w15.cell? ⟨w.heap.size, 0 + 2, none⟩ = some (.slice (some ⟨nr, 0, none⟩) x.loose.length x.loose.length) := by rw [hs15.cell]; rfl
      have hd15 : w15.cell? ⟨p, 0 + 2, none⟩ = some (.slice ao x.loose.length cp) := (hbb.cell (p := ⟨p, 0 + 2, none⟩) H.out.2.2.2.1).trans H.out.1.blk.cs.c2
      have hro : w15.ownsRow w.heap.size 84 65 (.slice (some ⟨nr, 0, none⟩) x.loose.length x.loose.length) x.loose.length zz := by
        have := own_ch H14.out.1 hc15 (fun k hk e => by cases hk; have e' : wr.heap.size = w.heap.size := e; omega)
        rw [← hnr] at this; exact this
      have hrs := own_ch H.out.1.row (Ch.of_below (S := fun _ => False) hbb (Nat.le_refl _)) (fun _ _ h => h)
      have hm15 := H1.out.2.2.2.keep hcb (fun (e : w.heap.size + 1 = w.heap.size) => by omega)
      have H15 := Lib.hid (And.intro hs15 (And.intro hbb (And.intro hro (And.intro hrs (And.intro hm15 (hro.lt _ rfl))))))
      have h1w := Lib.hid (show ∀ u ∈ wrsC x.loose, u.oneCell' = true from fun u hu => by
        obtain ⟨e, _, hu⟩ := List.mem_flatMap.1 hu
        exact one_wrC e u hu)
      clear d2 e2' g2' hw15 hw15' hs15 hc15 hcb hbb hro hrs hm15 hnr
      refine wp_region_takes (fun w' => w'.cell? ⟨w.heap.size, 0 + 2, none⟩ = some (.slice (some ⟨nr, 0, none⟩) x.loose.length x.loose.length) ∧ w'.cell? ⟨p, 0 + 2, none⟩ = some (.slice ao x.loose.length cp)) [0, 1, 2, 3, 4, 5, 6, 7, 8, 9] 1 (by kernel_rfl) rfl (by kernel_rfl) (by kernel_rfl) ⟨ha, hd15⟩ ?_
      iterate 10 (refine' HeldL.run ?_ ?_ ?_ ?_; rotate_left 2; (simp only [List.getElem?_toArray, List.getElem?_cons_zero, List.getElem?_cons_succ]; rfl); rfl; (rintro w' ⟨k0, k1⟩; go_simp; with_reducible rfl); simp only [Act.put, List.setIfInBounds_toArray, List.set_cons_zero, List.set_cons_succ])
      refine' wpAnyH_one 10 (by kernel_rfl) ?_ ?_; rotate_left; (simp only [List.getElem?_toArray, List.getElem?_cons_zero, List.getElem?_cons_succ]; rfl)
      refine wpList_copy_wide _ rfl _ _ _ rfl 84 i0 65 Try.underlying69 hi0 hz1 w.heap.size nr x.loose.length _ rfl (((Sm.refl w15).drew).owns H15.out.2.2.1) 0 (.slice ao x.loose.length cp) (wrsC x.loose) rfl (((Sm.refl w15).drew).owns H15.out.2.2.2.1) h1w.out ?_
      intro w16 hown16 hc16 hs16
      have hc16' : Ch (· = nr) w15 w16 := ((Sm.refl w15).drew.ch _).trans hc16
      have hS16 : w16.cell? ⟨w.heap.size, 0 + 2, none⟩ = some (.slice (some ⟨nr, 0, none⟩) x.loose.length x.loose.length) ∧ w16.cell? ⟨p, 0 + 2, none⟩ = some (.slice ao x.loose.length cp) :=
        ⟨(hc16'.cell (p := ⟨w.heap.size, 0 + 2, none⟩) (block_of_cell ha) (fun (e : w.heap.size = nr) => by omega)).trans ha, (hc16'.cell (p := ⟨p, 0 + 2, none⟩) (block_of_cell hd15) (fun (e : p = nr) => by have := H.out.2.2.2.1; omega)).trans hd15⟩
      refine QK.normal ⟨hS16, ?_⟩
      refine wpAnyH_done (by kernel_rfl) ?_ _
      refine NoPanic.normal ?_
      have H16 := Lib.hid (And.intro (H15.out.1.keep hc16' (fun (e : w.heap.size = nr) => by omega)) (And.intro (below_ch H15.out.2.1 hc16' (Nat.le_refl _) (fun k hk => by have : k = nr := hk; omega)) (And.intro hown16 (And.intro (H15.out.2.2.2.2.1.keep hc16' (fun (e : w.heap.size + 1 = nr) => by omega)) (show nr < w16.heap.size from Nat.lt_of_lt_of_le (show nr < w15.heap.size from H15.out.2.2.2.2.2.2) hc16'.size)))))
      clear ha hd15 hown16 hc16 hs16 hc16' hS16
      simp only [Act.put]
      go_wp2_with fail
      go_ret
      refine ⟨w.heap.size, rfl, ⟨w.heap.size + 1, _, al, fl, ⟨H16.out.1, H.out.1.alE, H.out.1.flE, H16.out.2.2.2.1, ?_, ?_, ?_, ?_, by omega, fun k hk => hk.2⟩⟩, H16.out.2.1⟩
      · exact ownsRow_low H16.out.2.2.1 (Nat.zero_le _)
      · exact ⟨Nat.le_refl _, by have := H16.out.2.2.2.2; omega⟩
      · exact ⟨by omega, by have := H16.out.2.2.2.2; omega⟩
      · intro k hk
        cases hk
        exact ⟨⟨show w.heap.size ≤ nr from by omega, H16.out.2.2.2.2⟩, show nr ≠ w.heap.size from by omega, show nr ≠ w.heap.size + 1 from by omega⟩
    · intro e he0 hne w10 hM10 hI10 hch10 hs10 hent
      have he : e ∈ es.toList := by simpa using he0
      obtain ⟨j, hkey⟩ := H.out.2.2.2.2.1.keys e he
      have hval : e.val = .agg (ofK .u8 (x.firm j)).toArray := (H.out.2.2.2.2.1.at_ e he j hkey).symm
      obtain ⟨hC1, hC2, hC3, f, hC4, hC5⟩ := HC.out
      have hb10 : Below w.heap.size w w10 := below_ch hC1 hch10 (Nat.le_refl _) (fun k hk => by have : k = w.heap.size + 1 + 1 := hk; omega)
      have hB10 := hC2.keep hch10 (fun (e : w.heap.size = w.heap.size + 1 + 1) => by omega)
      have hF10 := hC4.keep hch10 (fun (e : w.heap.size + 1 = w.heap.size + 1 + 1) => by omega)
      have hS10 := hC5.push H.out.2.2.2.2.1 he hkey
      rw [hval] at hS10
      have HLs := Lib.hid (left_less he hne)
      have HI10 := Lib.hid hI10
      have HM10 := Lib.hid hM10
      rw [hkey, hval] at hent
      rw [hkey, hval]
      obtain ⟨eb, heb⟩ : ∃ eb, eb = e.born := ⟨_, rfl⟩
      rw [← heb] at HLs HI10 hS10
      have HFB := H.out.2.1.firmB j
      have H10 := Lib.hid (And.intro hb10 (And.intro hB10 (And.intro hF10 (And.intro hS10 (And.intro HFB (infoB HFB))))))
      have HL10 := Lib.hid (len_B HFB isB_zer)
      have hz10 : w.heap.size + 3 ≤ w10.heap.size := by omega
      clear hkey hval heb he he0 hne hM10 hI10 hb10 hB10 hF10 hS10 HFB hI hM HC hC1 hC2 hC3 hC4 hC5 hch10 hs10
      clear e
      go_wp2_with (first
        | ((with_reducible refine wpList_alloc_blk _ rfl 39 rfl (ofK .u8 zer) Try.zeroBl ?_); intro w11 hb11 hbel11 hsz11; have HB11 := Lib.hid (And.intro hb11 hbel11); clear hb11 hbel11 hsz11)
        | ((with_reducible refine wpList_store_blk _ rfl 39 (.tmp 5) (.tmp 29) rfl w10.heap.size 39 (ofK .u8 zer) (ofK .u8 (x.firm j)) HB11.out.1 rfl rfl HL10.out H10.out.2.2.2.2.2 (one_ofK _ _) ?_); intro w12 hb12 hch12 hsz12; have HB12 := Lib.hid (And.intro hb12 (show Below w10.heap.size w10 w12 from below_ch HB11.out.2 hch12 (Nat.le_refl _) (fun k hk => by have : k = w10.heap.size := hk; omega))); clear hb12 hch12 hsz12))
      have hc12 := Ch.of_below (S := fun _ => False) HB12.out.2 (Nat.le_refl _)
      have cT : w12.cell? ⟨w.heap.size, 0 + 1, none⟩ = some (.map (some (w.heap.size + 1))) := by
        have := (H10.out.2.1.keep hc12 id).cell (0 + 1)
        rw [HBL.out] at this
        exact this
      have hr12 := rangeW_blk HB12.out.1
      have H12 := Lib.hid (And.intro (HI10.out.keep hc12 id) (And.intro (HM10.out.keep hc12 id) (And.intro (below_thn H10.out.1 HB12.out.2 (Nat.le_refl _)) (And.intro (H10.out.2.1.keep hc12 id) (H10.out.2.2.1.keep hc12 id)))))
      have hz12 : w.heap.size + 3 ≤ w12.heap.size := by have := HB12.out.2.size; omega
      clear hc12
      refine wp_region_takes (fun w' => w'.cell? ⟨w.heap.size, 0 + 1, none⟩ = some (.map (some (w.heap.size + 1))) ∧ w'.rangeAt w10.heap.size 0 (ofK .u8 (x.firm j))) [0, 1, 2, 3, 4, 5, 6] 1 (by kernel_rfl) rfl (by kernel_rfl) (by kernel_rfl) ⟨cT, hr12⟩ ?_
      iterate 6 (refine' HeldL.run ?_ ?_ ?_ ?_; rotate_left 2; (simp only [List.getElem?_toArray, List.getElem?_cons_zero, List.getElem?_cons_succ]; rfl); rfl; (rintro w' ⟨k0, -⟩; go_simp; with_reducible rfl); simp only [Act.put, List.setIfInBounds_toArray, List.set_cons_zero, List.set_cons_succ])
      refine' HeldL.run ?_ ?_ ?_ ?_
      rotate_left 2
      (simp only [List.getElem?_toArray, List.getElem?_cons_zero, List.getElem?_cons_succ]; rfl)
      rfl
      · rintro w' ⟨k0, k1⟩
        exact exec_load_mid rfl rfl k1 Try.underlying39 rfl H10.out.2.2.2.2.2
      simp only [Act.put, List.setIfInBounds_toArray, List.set_cons_zero, List.set_cons_succ]
      refine' wpAnyH_one 7 (by kernel_rfl) ?_ ?_; rotate_left; (simp only [List.getElem?_toArray, List.getElem?_cons_zero, List.getElem?_cons_succ]; rfl)
      refine wpList_update_f _ rfl _ _ _ _ rfl Try.underlying68 Try.underlying3 (w.heap.size + 1) (vB zer) _ (H12.out.2.2.2.2.keep ((Sm.refl w12).drew.ch (fun _ => False)) id) rfl j rfl (.agg (ofK .u8 (x.firm j)).toArray) rfl ?_
      intro w13 hm13 hc13 hs13
      have hc13' : Ch (· = w.heap.size + 1) w12 w13 := ((Sm.refl w12).drew.ch _).trans hc13
      have hne1 : ¬ w10.heap.size = w.heap.size + 1 := by omega
      have H13 := Lib.hid (And.intro (H12.out.1.keep hc13' (fun (e : w.heap.size + 1 + 1 = w.heap.size + 1) => by omega)) (And.intro (H12.out.2.1.keep hc13' (fun (e : m = w.heap.size + 1) => by omega)) (show CopyI w es bl w13 (seen.push eb) from
        ⟨below_ch H12.out.2.2.1 hc13' (Nat.le_refl _) (fun k hk => by have : k = w.heap.size + 1 := hk; omega), H12.out.2.2.2.1.keep hc13' (fun (e : w.heap.size = w.heap.size + 1) => by omega), by have := hc13'.size; omega, _, hm13, H10.out.2.2.2.1⟩)))
      have cT13 := (hc13'.cell (p := ⟨w.heap.size, 0 + 1, none⟩) (by show w.heap.size < _; omega) (fun (e : w.heap.size = w.heap.size + 1) => by omega)).trans cT
      have hr13 := rangeW_ch hr12 hc13' hne1
      refine QK.normal ⟨⟨cT13, hr13⟩, ?_⟩
      refine wpAnyH_done (by kernel_rfl) ?_ _
      refine NoPanic.normal ?_
      have HL13 := Lib.hid (leftN_eq H13.out.1 H13.out.2.1)
      clear cT hr12 hm13 hc13 hs13 hc13' cT13 hr13 hent
      simp only [Act.put]
      go_wp2_with fail
      go_roundw
      case rel => exact ⟨_, H13.out.1, H13.out.2.1, Lib.hid H13.out.2.2⟩
      case measure => rw [HL13.out, HLn.out]; exact HLs.out

theorem copy_any (p : Nat) (S : Nat → Prop) (x : Dk) (n : Nat) (w : World) (h : DkAt w p S x) (hx : x.Ok n) (hn : n ≤ 1073741824) :
    Calls Try.prog 19 #[.pointer (some ⟨p, 0, none⟩)] w (fun e w' => ∃ q, e = .returned (.pointer (some ⟨q, 0, none⟩)) ∧ DkAt w' q (fun k => w.heap.size ≤ k ∧ k < w'.heap.size) x ∧ Below w.heap.size w w') := by
  obtain ⟨m, lv, al, fl, h⟩ := h
  exact copy_go p S x n w m lv al fl h hx hn

end Go.Proofs.Yticcjaccpcnjhaa
