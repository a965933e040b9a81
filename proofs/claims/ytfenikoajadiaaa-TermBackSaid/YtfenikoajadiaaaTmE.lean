/-
  Layer 5: term.put, walked. Conditions: a term that may be; at most a million bytes.
-/
import Derived.Test.YtfenikoajadiaaaTmD
import Derived.Lib.AppendStr
import Derived.Test.YtfenikoajadiaaaStr
import Derived.Test.YtfenikoajadiaaaPut
import Derived.Test.YtfenikoajadiaaaRgN
namespace Go.Proofs.Ytfenikoajadiaaa
open Go Go.RowKit
set_option linter.unusedSimpArgs false
set_option linter.unusedVariables false


theorem strCells_ints (s : ByteArray) : Go.Lib.strCells s = ofK .u8 (ints s) := by unfold Go.Lib.strCells ofK ints; rw [List.map_map]; rfl

-- plain
mutual
/-- may a term be, in all its parts? -/
def okT : Tm → Bool
  | .mk k u n s ks => plainB k u n s ks.length && okTL ks
def okTL : List Tm → Bool
  | [] => true
  | t :: ts => okT t && okTL ts
end
/-- the bytes of a term, but for its kids' -/
def headX (k u n : Int) (s : ByteArray) (bT bU bN : Bool) : List Int := (([k] ++ if bT = true then (s.size : Int) :: ints s else []) ++ if bU = true then [u] else []) ++ if bN = true then beF n 2 else []
mutual
def bytesT : Tm → List Int
  | .mk k u n s ks => headX k u n s (hasB k 1) (hasB k 2) (hasB k 4) ++ bytesTL ks
def bytesTL : List Tm → List Int
  | [] => []
  | t :: ts => bytesT t ++ bytesTL ts
end
theorem okTL_iff : ∀ {ts : List Tm}, okTL ts = true ↔ ∀ t ∈ ts, okT t = true
  | [] => by rw [okTL]; simp
  | t :: ts => by rw [okTL, Bool.and_eq_true, okTL_iff]; simp
structure PlainP (k u n : Int) (s : ByteArray) (l : Nat) : Prop where
  pk : 1 ≤ k ∧ k ≤ 8
  pl : l = kidsN k
  ps : s.size ≤ 64
  pt : hasB k 1 = true ∨ s.size = 0
  pu : if hasB k 2 = true then (1 ≤ u ∧ u ≤ 6) else u = 0
  pn : if hasB k 4 = true then (0 ≤ n ∧ n ≤ 65535) else n = 0
theorem isEmpty_size {s : ByteArray} : s.toList.isEmpty = true ↔ s.size = 0 := by
  rw [List.isEmpty_iff, ByteArray.toList_eq]
  constructor
  · intro h
    have : s.data.toList.length = 0 := by rw [h]; rfl
    simpa using this
  · intro h
    apply List.eq_nil_of_length_eq_zero
    simpa using h
theorem plainB_iff {k u n : Int} {s : ByteArray} {l : Nat} : plainB k u n s l = true ↔ PlainP k u n s l := by
  unfold plainB plainX
  simp only [Bool.and_eq_true, Bool.or_eq_true, decide_eq_true_eq, bne_iff_ne, beq_iff_eq, isEmpty_size]
  have hf : fieldsF k ≠ 0 ↔ 1 ≤ k ∧ k ≤ 8 := by
    constructor
    · intro h
      rcases kind_cases k with hk | hk | hk | hk | hk | hk | hk | hk | hk <;> first | omega | exact (h (fieldsF_none hk)).elim
    · intro h
      obtain rfl | rfl | rfl | rfl | rfl | rfl | rfl | rfl : k = 1 ∨ k = 2 ∨ k = 3 ∨ k = 4 ∨ k = 5 ∨ k = 6 ∨ k = 7 ∨ k = 8 := by omega
      all_goals decide
  rw [hf]
  constructor
  · rintro ⟨h1, h2, h3, h4, h5, h6⟩
    refine ⟨h1, by omega, by omega, h4, ?_, ?_⟩
    · split at h5
      · rename_i h; rw [if_pos h]; unfold knownB at h5; simpa using h5
      · rename_i h; rw [if_neg h]; simpa using h5
    · split at h6
      · rename_i h; rw [if_pos h]; simpa using h6
      · rename_i h; rw [if_neg h]; simpa using h6
  · intro h
    refine ⟨h.pk, by have := h.pl; omega, by have := h.ps; omega, h.pt, ?_, ?_⟩
    · have h5 := h.pu
      split at h5
      · rename_i h; rw [if_pos h]; unfold knownB; simpa using h5
      · rename_i h; rw [if_neg h]; simpa using h5
    · have h6 := h.pn
      split at h6
      · rename_i h; rw [if_pos h]; simpa using h6
      · rename_i h; rw [if_neg h]; simpa using h6

-- a row of bytes that grows
theorem ch_row {w w' : World} {row : Option Nat} (h : w.grownBy w' row) : Ch (fun k => row = some k) w w' := ⟨h.os, h.tape, h.output, h.size, fun k hk hn => h.block k hk (fun e => hn e.symm)⟩
theorem own_low {w : World} {b b' : Nat} {e : TypeId} {size : Nat} {v : Value} {n : Nat} {xs : List Value} (h : w.ownsRow b e size v n xs) (hb : b' ≤ b) : w.ownsRow b' e size v n xs := by
  obtain ⟨h1, h2 | ⟨g, cap, cur, h3, h4, h5⟩⟩ := h
  · exact ⟨h1, .inl h2⟩
  · exact ⟨h1, .inr ⟨g, cap, cur, h3, Nat.le_trans hb h4, h5⟩⟩
theorem own_ch {w w' : World} {S : Nat → Prop} {base e size n : Nat} {v : Value} {xs : List Value} (h : w.ownsRow base e size v n xs) (hc : Ch S w w') (hS : ∀ k, v.ownBlock = some k → ¬ S k) : w'.ownsRow base e size v n xs := by
  obtain ⟨h1, h2 | ⟨g, cap, C, h3, h4, h5, h6⟩⟩ := h
  · exact ⟨h1, .inl h2⟩
  · exact ⟨h1, .inr ⟨g, cap, C, h3, h4, by rw [hc.block g (lt_of_block h5) (hS g (by rw [h3]; rfl))]; exact h5, h6⟩⟩
/-- from one row to the next: what was written, where the next one lies -/
structure Gw (w w' : World) (v v' : Value) : Prop where
  ch : Ch (fun k => v.ownBlock = some k) w w'
  at' : ∀ k, v'.ownBlock = some k → v.ownBlock = some k ∨ w.heap.size ≤ k
theorem Gw.refl (w : World) (v : Value) : Gw w w v v := ⟨Ch.refl _ _, fun _ h => .inl h⟩
theorem Gw.trans {w w1 w2 : World} {v v1 v2 : Value} (h : Gw w w1 v v1) (h2 : Gw w1 w2 v1 v2) : Gw w w2 v v2 :=
  ⟨⟨h2.ch.os.trans h.ch.os, h2.ch.tape.trans h.ch.tape, h2.ch.output.trans h.ch.output, Nat.le_trans h.ch.size h2.ch.size, fun k hk hn => (h2.ch.block k (Nat.lt_of_lt_of_le hk h.ch.size) (fun e => by
      rcases h.at' k e with h3 | h3
      · exact hn h3
      · omega)).trans (h.ch.block k hk hn)⟩, fun k hk => by
    rcases h2.at' k hk with h3 | h3
    · exact h.at' k h3
    · exact .inr (Nat.le_trans h.ch.size h3)⟩
theorem Gw.below {w w' : World} {v : Value} (hb : Below w.heap.size w w') : Gw w w' v v := ⟨Ch.of_below hb (Nat.le_refl _), fun _ h => .inl h⟩
theorem Gw.nil {w w' : World} {v : Value} (h : Gw w w' (.slice none 0 0) v) : Below w.heap.size w w' := ⟨h.ch.os, h.ch.tape, h.ch.output, h.ch.size, fun k hk => h.ch.block k hk (fun e => by cases e)⟩
/-- the row, and the frame's own variable -/
structure PutI (w0 : World) (base : Nat) (v0 : Value) (g : Nat) (C : List Value) (v : Value) (xs : List Int) (W : World) : Prop where
  row : W.ownsRow base 5 1 v xs.length (ofK .u8 xs)
  box : Blk W g 24 C
  g0 : w0.heap.size ≤ g
  b0 : base ≤ w0.heap.size
  gw : Gw w0 W v0 v
  ap : ∀ k, v.ownBlock = some k → k ≠ g
section
variable {w0 W W' : World} {base g : Nat} {v0 v v' : Value} {C : List Value} {xs ys : List Int}
theorem PutI.below (h : PutI w0 base v0 g C v xs W) (hb : Below W.heap.size W W') : PutI w0 base v0 g C v xs W' :=
  ⟨own_ch h.row (Ch.of_below (S := fun _ => False) hb (Nat.le_refl _)) (fun _ _ h => h), h.box.below hb h.box.lt, h.g0, h.b0, h.gw.trans (Gw.below hb), h.ap⟩
theorem PutI.size (h : PutI w0 base v0 g C v xs W) : base ≤ W.heap.size := Nat.le_trans h.b0 h.gw.ch.size
theorem PutI.go (h : PutI w0 base v0 g C v xs W) (hr : W'.ownsRow base 5 1 v' ys.length (ofK .u8 ys)) (hg : Gw W W' v v') : PutI w0 base v0 g C v' ys W' :=
  ⟨hr, h.box.keep hg.ch (fun e => h.ap g e rfl), h.g0, h.b0, h.gw.trans hg, fun k hk => by
    rcases hg.at' k hk with h3 | h3
    · exact h.ap k h3
    · have := h.box.lt; omega⟩
theorem PutI.sub (h : PutI w0 base v0 g C v xs W) {F : Nat → Prop} {t : Tm} {cs : List Value} (ht : TmC F w0 cs t) (hF : ∀ j, F j → v0.ownBlock ≠ some j) : TmC F W cs t := ht.keep h.gw.ch hF
theorem PutI.subL (h : PutI w0 base v0 g C v xs W) {F : Nat → Prop} {ts : List Tm} {v1 : Value} (ht : SlT F w0 v1 ts) (hF : ∀ j, F j → v0.ownBlock ≠ some j) : SlT F W v1 ts := ht.keep h.gw.ch hF
end
/-- bytes behind the row -/
theorem wpList_append_B {w0 w : World} {base g : Nat} {v0 : Value} {C : List Value} {ops : Array Oper} {rest : List Oper} {o : Oper} {a : Act} {Q : Exit → Act → World → Prop} (s x' : Operand) (hgd : o.guard = none)
    (ho : o.op = .call { callee := .builtin .append, args := #[s, x'], argTypes := #[25, 25] }) {v : Value} {xs : List Int} (hI : PutI w0 base v0 g C v xs w) (hs : a.eval s = v)
    {vx : Value} {ys : List Int} (hx : a.eval x' = vx) (hsl : Sl w vx (ofK .u8 ys)) (z : List Int) (hz : xs ++ ys = z) (hn : z.length ≤ 1000000)
    (h : ∀ ao c w', PutI w0 base v0 g C (.slice ao z.length c) z w' → wpList Try.prog ops Q rest (a.put o.dst (.slice ao z.length c)) w') :
    wpList Try.prog ops Q (o :: rest) a w := by
  obtain ⟨i0, hi, hz0, hz1, hz2⟩ := info_parts Try.info5
  refine wpList_append_sl w hgd s x' _ ho base 5 i0 (.int .u8 0) 1 Try.underlying25 hi hz0 hz1 hz2 rfl v xs.length (ofK .u8 xs) hs hI.row vx (ofK .u8 ys) hx hsl (one_ofK _ _) z.length (by rw [length_ofK, ← hz, List.length_append]) (by unfold maxLen; omega) (by omega) hI.size ?_
  intro ao c w' hown hgr hob
  refine h ao c w' (hI.go ?_ ⟨ch_row hgr, fun k hk => ?_⟩)
  · have e : ofK .u8 z = ofK .u8 xs ++ ofK .u8 ys := by rw [← hz]; simp [ofK]
    rw [e]; exact hown
  · rcases hob with hob | hob
    · exact .inl (hob.symm.trans hk)
    · rw [hob] at hk; injection hk with hk; exact .inr (by omega)
/-- a string's bytes behind the row -/
theorem wpList_append_S {w0 w : World} {base g : Nat} {v0 : Value} {C : List Value} {ops : Array Oper} {rest : List Oper} {o : Oper} {a : Act} {Q : Exit → Act → World → Prop} (s x' : Operand) (hgd : o.guard = none)
    (ho : o.op = .call { callee := .builtin .append, args := #[s, x'], argTypes := #[25, 9] }) {v : Value} {xs : List Int} (hI : PutI w0 base v0 g C v xs w) (hs : a.eval s = v)
    {t : ByteArray} (hx : a.eval x' = .string t) (z : List Int) (hz : xs ++ ints t = z) (hn : z.length ≤ 1000000)
    (h : ∀ ao c w', PutI w0 base v0 g C (.slice ao z.length c) z w' → wpList Try.prog ops Q rest (a.put o.dst (.slice ao z.length c)) w') :
    wpList Try.prog ops Q (o :: rest) a w := by
  obtain ⟨i0, hi, hz0, hz1, hz2⟩ := info_parts Try.info5
  have hl : xs.length + t.size = z.length := by rw [← hz, List.length_append, ints_length]
  refine wpList_plain hgd fun K hK => ?_
  obtain ⟨v', w', hr, h2, h3, h4⟩ := Go.Lib.run_append_own_string (P := Try.prog) w base 25 9 o.type 5 i0 Try.underlying25 Try.underlying9 hi hz0 hz1 hz2 v xs.length (ofK .u8 xs) hI.row t (by unfold maxLen; omega) (by omega) hI.size
  have hob : v'.ownBlock = v.ownBlock ∨ v'.ownBlock = some w.heap.size := by
    obtain ⟨hx1, ⟨rfl, hx2⟩ | ⟨g', cap, cur, rfl, hbg, hg, hnc, hcm, hcs, htake⟩⟩ := hI.row
    · by_cases h0 : t.size = 0
      · rw [h4.2 ⟨rfl, h0⟩]; exact .inl rfl
      · have h5 := run_append_nil_string (P := Try.prog) w 25 9 o.type 5 i0 (.int .u8 0) Try.underlying25 Try.underlying9 hi hz0 t (by omega) (by omega) (by rw [hz2]; omega)
        rw [hr] at h5; injection h5 with h5 _; rw [h5]; exact .inr rfl
    · by_cases hroom : xs.length + t.size ≤ cap
      · have h5 := Go.Lib.run_append_room_string (P := Try.prog) w 25 9 o.type 5 i0 Try.underlying25 Try.underlying9 hi hz1 g' xs.length cap cur hg t hroom (by have h7 : cur.size = cap := (by simpa using hcs); omega)
        rw [hr] at h5; injection h5 with h5 _; rw [h5]; exact .inl rfl
      · have h5 := Go.Lib.run_append_grow_string (P := Try.prog) w 25 9 o.type 5 i0 (.int .u8 0) Try.underlying25 Try.underlying9 hi hz0 ⟨g', 0, none⟩ xs.length cap (ofK .u8 xs) (by rw [hz1]; simp [ofK]) (fun j u hu => hI.row.cells (g := g') rfl j u hu) t (by omega) (by omega) (by rw [hz2]; exact growslice_fits (by omega) (by omega))
        rw [hr] at h5; injection h5 with h5 _; rw [h5]; exact .inr rfl
  obtain ⟨ao, c, rfl⟩ := own_shape h2
  have hk := h ao c w' (hI.go (by
    have e : ofK .u8 z = ofK .u8 xs ++ Go.Lib.strCells t := by rw [← hz, strCells_ints]; simp [ofK]
    rw [e, ← hl]; exact (by rw [hl] at h2 ⊢; exact h2)) ⟨ch_row h3, fun k hk => by
      rcases hob with hob | hob
      · exact .inl (hob.symm.trans (by rw [hl]; exact hk))
      · rw [hl, hk] at hob; injection hob with hob; exact .inr (by omega)⟩)
  rw [hl] at hr
  unfold Oper.wp execOp
  simp only [ho, resolve, invoke, builtin, Sem.run_bind, Sem.run_pure, Result.andThen_ok, List.map_toArray, List.map_cons, List.map_nil, hs, hx, hr]
  exact hK _ _ hk
theorem Try.sizeU8 : ∀ w, (sizeOf 5).run Try.prog w = .ok 1 w := fun w => by kernel_rfl
theorem Try.zeroU8 : ∀ w, (zeroValue 5).run Try.prog w = .ok (.int .u8 0) w := fun w => by kernel_rfl
/-- a row of one byte, made -/
theorem wpList_slice_b1 (w : World) {ops : Array Oper} {rest : List Oper} {o : Oper} {a : Act} {Q : Exit → Act → World → Prop} (hgd : o.guard = none) (x : Operand) (ho : o.op = .buildSlice 25 1 #[(0, x)]) {c : Int} (hx : a.eval x = .int .u8 c)
    (h : ∀ w', Sl w' (.slice (some ⟨w.heap.size, 0, none⟩) 1 1) (ofK .u8 [c]) → Below w.heap.size w w' → wpList Try.prog ops Q rest (a.put o.dst (.slice (some ⟨w.heap.size, 0, none⟩) 1 1)) w') :
    wpList Try.prog ops Q (o :: rest) a w := by
  refine wpList_plain hgd fun K hK => ?_
  have hb : (Instr.buildSlice 25 1 #[(0, .int .u8 c)]).run Try.prog w = .ok (.slice (some ⟨w.heap.size, 0, none⟩) 1 1) (w.alloc (.cells [Value.int .u8 c].toArray 5)) := by
    simp [Instr.buildSlice, run_underlying Try.underlying25, Try.sizeU8, Try.zeroU8, Value.cells, Result.andThen, Instr.fill, run_newRow', Array.range_succ]
    rw [Array.eq_empty_of_size_eq_zero (xs := Array.map _ (Array.range 0)) (by simp)]
    rfl
  have hrun : (execOp a.eval o).run Try.prog w = .ok (.value (.slice (some ⟨w.heap.size, 0, none⟩) 1 1)) (w.alloc (.cells [Value.int .u8 c].toArray 5)) := by
    unfold execOp
    simp only [ho]
    rw [show (#[((0 : Nat), x)].map fun (i, x) => (i, a.eval x)) = #[(0, .int .u8 c)] by simp [hx]]
    simp [hb, Result.andThen]
  unfold Oper.wp
  rw [hrun]
  refine hK _ _ (h _ ?_ ((Below.refl _ _).alloc (Nat.le_refl _) _))
  exact Sl.of_owns ((Blk.new w [Value.int .u8 c] 5).owns (Nat.le_refl _) (by simp [maxLen]))


end Go.Proofs.Ytfenikoajadiaaa
