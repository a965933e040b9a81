/-
  perm.with, walked. Conditions: the slice rises.
-/
import Derived.Test.YtampheimonmggaaPmE
namespace Go.Proofs.Ytampheimonmggaa
open Go Go.RowKit Go.Sort
set_option linter.unusedSimpArgs false

theorem own_ch {w w' : World} {S : Nat → Prop} {base e size n : Nat} {v : Value} {xs : List Value} (h : w.ownsRow base e size v n xs) (hc : Ch S w w') (hS : ∀ k, v.ownBlock = some k → ¬ S k) : w'.ownsRow base e size v n xs := by
  obtain ⟨h1, h2 | ⟨g, cap, C, h3, h4, h5, h6⟩⟩ := h
  · exact ⟨h1, .inl h2⟩
  · exact ⟨h1, .inr ⟨g, cap, C, h3, h4, by rw [hc.block g (lt_of_block h5) (hS g (by rw [h3]; rfl))]; exact h5, h6⟩⟩

theorem insert_any (base vb i : Nat) (x : Int) (v : Value) (l : List Int) (w : World) (hv : w.ownsRow base 3 1 v l.length (ofK .i64 l)) (hb : base ≤ w.heap.size) (hx : Blk w vb 3 [.int .i64 x]) (hnv : ∀ k, v.ownBlock = some k → k ≠ vb) (hl : l.length ≤ 1000000) (hi : i ≤ l.length) :
    Calls Try.prog 49 #[v, .int .i64 i, .slice (some ⟨vb, 0, none⟩) 1 1] w (InsP base w (insL l i x)) := by
  rcases Nat.lt_or_ge i l.length with h | h
  · exact insert_mid base vb i x v l w hv hb hx hnv hl h
  · obtain rfl : i = l.length := by omega
    have e : insL l l.length x = l ++ [x] := by simp [insL]
    rw [e]
    exact insert_end base vb x v l w hv hb hx hl

theorem Try.sizeI : ∀ w, (sizeOf 3).run Try.prog w = .ok 1 w := fun w => by kernel_rfl
theorem Try.zeroI : ∀ w, (zeroValue 3).run Try.prog w = .ok (.int .i64 0) w := fun w => by kernel_rfl
theorem newRow_I (w : World) (cs : Array Value) : (newRow 3 cs).run Try.prog w = .ok ⟨w.heap.size, 0, none⟩ (w.alloc (.cells cs 3)) := by simp [newRow, Result.andThen]
/-- a row of one int, made -/
theorem wpList_slice_i1 (w : World) {ops : Array Oper} {rest : List Oper} {o : Oper} {a : Act} {Q : Exit → Act → World → Prop} (hgd : o.guard = none) (x : Operand) (ho : o.op = .buildSlice 22 1 #[(0, x)]) {c : Int} (hx : a.eval x = .int .i64 c)
    (h : ∀ w', Blk w' w.heap.size 3 [.int .i64 c] → Below w.heap.size w w' → w'.heap.size = w.heap.size + 1 → wpList Try.prog ops Q rest (a.put o.dst (.slice (some ⟨w.heap.size, 0, none⟩) 1 1)) w') :
    wpList Try.prog ops Q (o :: rest) a w := by
  refine wpList_plain hgd fun K hK => ?_
  have hb : (Instr.buildSlice 22 1 #[(0, .int .i64 c)]).run Try.prog w = .ok (.slice (some ⟨w.heap.size, 0, none⟩) 1 1) (w.alloc (.cells [Value.int .i64 c].toArray 3)) := by
    simp [Instr.buildSlice, run_underlying Try.underlying22, Try.sizeI, Try.zeroI, Value.cells, Result.andThen, Instr.fill, newRow_I, Array.range_succ]
    rw [Array.eq_empty_of_size_eq_zero (xs := Array.map _ (Array.range 0)) (by simp)]
    rfl
  have hrun : (execOp a.eval o).run Try.prog w = .ok (.value (.slice (some ⟨w.heap.size, 0, none⟩) 1 1)) (w.alloc (.cells [Value.int .i64 c].toArray 3)) := by
    unfold execOp
    simp only [ho]
    rw [show (#[((0 : Nat), x)].map fun (i, x) => (i, a.eval x)) = #[(0, .int .i64 c)] by simp [hx]]
    simp [hb, Result.andThen]
  unfold Oper.wp
  rw [hrun]
  exact hK _ _ (h _ (Blk.new w _ _) ((Below.refl _ _).alloc (Nat.le_refl _) _) (World.size_alloc _ _))

/-- a rising list with one -/
def withL (l : List Int) (x : Int) : List Int := if l.any (x == ·) = true then l else insL l (lessN l x) x
theorem lessN_le (l : List Int) (x : Int) : lessN l x ≤ l.length := List.countP_le_length

set_option maxRecDepth 100000 in
set_option maxHeartbeats 2000000 in
theorem with_any (x : Int) (v : Value) (l : List Int) (w : World) (hv : Sl w v (ofK .i64 l)) (hs : l.Pairwise (· < ·)) (hl : l.length ≤ 1000000) :
    Calls Try.prog 28 #[v, .int .i64 x] w (InsP w.heap.size w (withL l x)) := by
  have hS := search_any x v l w hv hs (by omega)
  obtain ⟨b, hb⟩ : ∃ b, l.any (x == ·) = b := ⟨_, rfl⟩
  obtain ⟨i, hi⟩ : ∃ i, lessN l x = i := ⟨_, rfl⟩
  have hil := lessN_le l x
  rw [hb, hi] at hS
  rw [hi] at hil
  have hwl : withL l x = if b = true then l else insL l i x := by unfold withL; rw [hb, hi]
  rw [hwl]
  have HS := Lib.hid hS
  have HC := Lib.hid (clone_any v l w hv (by omega))
  have HI := Lib.hid (And.intro hil hl)
  obtain ⟨ao, n, c, rfl⟩ : ∃ ao n c, v = .slice ao n c := by obtain ⟨ao, c, e, _⟩ := hv.nums; exact ⟨_, _, _, e⟩
  clear hb hi hwl hS hil hl hv hs
  cases b
  · go_enter Try.func28, Try.ntmps28
    go_wp2_with fail
    refine HS.out.mono ?_
    rintro e w' ⟨rfl, rfl⟩
    go_wp2_with fail
    refine HC.out.mono ?_
    rintro e w1 ⟨v1, rfl, hown, hb1⟩
    have H1 := Lib.hid (And.intro hown hb1)
    obtain ⟨ao1, c1, rfl⟩ := own_shape hown
    clear hown hb1
    go_wp2_with ((with_reducible refine wpList_slice_i1 w1 rfl (.tmp 19) rfl rfl ?_); intro w2 hb hbel hsz; have H2 := Lib.hid (And.intro hb hbel); clear hb hbel hsz)
    refine (insert_any w.heap.size w1.heap.size i x _ l w2 (own_ch H1.out.1 (Ch.of_below (S := fun _ => False) H2.out.2 (Nat.le_refl _)) (fun _ _ h => h)) (Nat.le_trans H1.out.2.size H2.out.2.size) H2.out.1 (fun k hk => by have := (H1.out.1.lt k hk).2; omega) HI.out.2 HI.out.1).mono ?_
    rintro e w3 ⟨ao3, n3, c3, rfl, h3, h4, h5⟩
    have H3 := Lib.hid (And.intro h3 (below_thn H1.out.2 (H2.out.2) (Nat.le_refl _)))
    have H4 := Lib.hid (And.intro h4 h5)
    clear h3 h4 h5
    go_wp2_with fail
    go_ret
    exact ⟨_, _, _, rfl, H3.out.1, H3.out.2.trans H4.out.1, H4.out.2⟩
  · go_enter Try.func28, Try.ntmps28
    go_wp2_with fail
    refine HS.out.mono ?_
    rintro e w' ⟨rfl, rfl⟩
    go_wp2_with fail
    refine HC.out.mono ?_
    rintro e w1 ⟨v1, rfl, hown, hb1⟩
    have H1 := Lib.hid (And.intro hown hb1)
    obtain ⟨ao1, c1, rfl⟩ := own_shape hown
    clear hown hb1
    go_wp2_with fail
    go_ret
    exact ⟨_, _, _, rfl, Sl.of_owns H1.out.1, H1.out.2, fun k hk => (H1.out.1.lt k hk).1⟩

end Go.Proofs.Ytampheimonmggaa
