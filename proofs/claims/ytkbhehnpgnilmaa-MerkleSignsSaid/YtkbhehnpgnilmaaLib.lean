/-
  Plain words on worlds that all walks of this seat use: what a slice reads, what a call may change. No program in sight. Conditions: none.
-/
import Derived.WalkKit
import Derived.Laws.AppendOwnNone
import Derived.Laws.CopyOwn
import Derived.Maps.AppendAt
import Derived.WalkLawsBesides
import Derived.WalkSpells
import Derived.Lib.Hide
import Derived.OneCell
import Derived.Laws.IdiomStrings
namespace Go.Proofs.Ytkbhehnpgnilmaa
open Go Go.RowKit

/-- The slice value v reads, in the world w, as the cells xs (elements of one cell each). -/
def Sl (w : World) (v : Value) (xs : List Value) : Prop :=
  (v = .slice none 0 0 ∧ xs = []) ∨ ∃ ad c, v = .slice (some ad) xs.length c ∧ xs.length ≤ c ∧ c ≤ maxLen ∧ (∀ i u, xs[i]? = some u → w.cell? (ad.add i) = some u)

theorem block_of_cell {w : World} {a : Addr} {u : Value} (h : w.cell? a = some u) : a.block < w.heap.size := by
  by_cases hb : a.block < w.heap.size
  · exact hb
  · rw [World.cell?, show w.heap[a.block]? = none by simp; omega] at h
    cases h

theorem add_block (a : Addr) (i : Nat) : (a.add i).block = a.block := by
  unfold Addr.add; split <;> rfl

theorem Sl.nil (w : World) : Sl w (.slice none 0 0) [] := .inl ⟨rfl, rfl⟩

/-- What is read stays read where the blocks that are below B stay. -/
theorem Sl.below {B : Nat} {w w' : World} {v : Value} {xs : List Value} (h : Sl w v xs) (hw : Below B w w') (hB : w.heap.size ≤ B) : Sl w' v xs := by
  rcases h with h | ⟨ad, c, h1, h2, h3, h4⟩
  · exact .inl h
  · refine .inr ⟨ad, c, h1, h2, h3, fun i u hu => ?_⟩
    have hc := h4 i u hu
    rw [hw.cell (by have := block_of_cell hc; omega)]
    exact hc

/-- what a call may have turned among the blocks that were there: those in S -/
structure Ch (S : Nat → Prop) (w w' : World) : Prop where
  os : w'.os = w.os
  tape : w'.tape = w.tape
  output : w'.output = w.output
  size : w.heap.size ≤ w'.heap.size
  block : ∀ k, k < w.heap.size → ¬ S k → w'.heap[k]? = w.heap[k]?

theorem Ch.refl (S : Nat → Prop) (w : World) : Ch S w w := ⟨rfl, rfl, rfl, Nat.le_refl _, fun _ _ _ => rfl⟩
theorem Ch.trans {S : Nat → Prop} {a b c : World} (h : Ch S a b) (k : Ch S b c) : Ch S a c :=
  ⟨k.os.trans h.os, k.tape.trans h.tape, k.output.trans h.output, Nat.le_trans h.size k.size, fun i hi hs => (k.block i (Nat.lt_of_lt_of_le hi h.size) hs).trans (h.block i hi hs)⟩
/-- what the second part turns may be new blocks of the first -/
theorem Ch.trans' {S T : Nat → Prop} {a b c : World} (h : Ch S a b) (k : Ch T b c) (hT : ∀ i, i < a.heap.size → T i → S i) : Ch S a c :=
  ⟨k.os.trans h.os, k.tape.trans h.tape, k.output.trans h.output, Nat.le_trans h.size k.size, fun i hi hs => (k.block i (Nat.lt_of_lt_of_le hi h.size) (fun ht => hs (hT i hi ht))).trans (h.block i hi hs)⟩
theorem Ch.mono {S T : Nat → Prop} {w w' : World} (h : Ch S w w') (hT : ∀ i, S i → T i) : Ch T w w' := ⟨h.os, h.tape, h.output, h.size, fun k hk hs => h.block k hk (fun s => hs (hT k s))⟩
theorem Ch.drew {S : Nat → Prop} {a w : World} (h : Ch S a w) : Ch S a w.drew := ⟨h.os, h.tape, h.output, h.size, h.block⟩
theorem Ch.alloc {S : Nat → Prop} {a w : World} (h : Ch S a w) (o : Obj) : Ch S a (w.alloc o) :=
  h.trans ⟨rfl, rfl, rfl, by simp, fun k hk _ => Below.heap_alloc _ _ _ hk⟩
theorem Ch.setCell {S : Nat → Prop} {a w : World} (h : Ch S a w) {p : Addr} (hp : S p.block ∨ a.heap.size ≤ p.block) (u : Value) : Ch S a (w.setCell p u) :=
  ⟨h.os, h.tape, h.output, by have := h.size; simp [World.setCell]; exact this, fun k hk hs => by
    rw [Below.heap_setCell _ _ _ _ (by rintro rfl; rcases hp with hp | hp; exact hs hp; omega)]; exact h.block k hk hs⟩
theorem Ch.grown {S : Nat → Prop} {a w w' : World} {row : Option Nat} (h : Ch S a w) (hg : w.grownBy w' row) (hr : ∀ k, row = some k → S k ∨ a.heap.size ≤ k) : Ch S a w' :=
  ⟨hg.os.trans h.os, hg.tape.trans h.tape, hg.output.trans h.output, Nat.le_trans h.size hg.size, fun k hk hs => by
    rw [hg.block k (Nat.lt_of_lt_of_le hk h.size) (fun e => by rcases hr k e.symm with hp | hp; exact hs hp; omega)]; exact h.block k hk hs⟩
theorem Ch.below {S : Nat → Prop} {w w' : World} (h : Ch S w w') (hS : ∀ k, k < w.heap.size → ¬ S k) : Below w.heap.size w w' :=
  ⟨h.os, h.tape, h.output, h.size, fun k hk => h.block k hk (hS k hk)⟩
theorem Ch.of_below {S : Nat → Prop} {B : Nat} {w w' : World} (h : Below B w w') (hB : w.heap.size ≤ B) : Ch S w w' :=
  ⟨h.os, h.tape, h.output, h.size, fun k hk _ => h.block k (by omega)⟩
theorem Ch.cell {S : Nat → Prop} {w w' : World} (h : Ch S w w') {p : Addr} (hp : p.block < w.heap.size) (hS : ¬ S p.block) : w'.cell? p = w.cell? p := World.cell?_of_block (w := w) (h.block p.block hp hS)
theorem Ch.frozen {S : Nat → Prop} {w w' : World} (h : Ch S w w') {p : Addr} (hp : p.block < w.heap.size) (hS : ¬ S p.block) : w'.frozen? p = w.frozen? p := World.frozen?_of_block (w := w) (h.block p.block hp hS)

theorem own_shape {w : World} {base : Nat} {e : TypeId} {size : Nat} {v : Value} {n : Nat} {xs : List Value} (h : w.ownsRow base e size v n xs) : ∃ ao c, v = .slice ao n c := by
  obtain ⟨_, ⟨rfl, rfl⟩ | ⟨g, cap, _, rfl, _⟩⟩ := h
  · exact ⟨_, _, rfl⟩
  · exact ⟨_, _, rfl⟩

/-- append(v, x...): v is nil or the call's own, x is whatever slice that reads as news. -/
theorem wpList_append_sl {P : Program} (w : World) {ops : Array Oper} {rest : List Oper} {o : Oper} {a : Act} {Q : Exit → Act → World → Prop} (hgd : o.guard = none) (s x : Operand) (t : TypeId)
    (ho : o.op = .call { callee := .builtin .append, args := #[s, x], argTypes := #[t, t] })
    (base : Nat) (e : TypeId) (i : TypeInfo) (z : Value) (bytes : Nat) (ht : P.underlying t = some (.slice e)) (hi : P.info? e = some i) (hz : i.zero = some z)
    (hsize : i.size = 1) (hby : i.bytes = bytes) (hzs : z.cells.size = 1)
    (v : Value) (n : Nat) (xs : List Value) (hs : a.eval s = v) (hown : w.ownsRow base e 1 v n xs)
    (vx : Value) (news : List Value) (hx : a.eval x = vx) (hsl : Sl w vx news) (h1 : ∀ u ∈ news, u.oneCell' = true) (N : Nat) (hN : n + news.length = N)
    (h63 : N ≤ maxLen) (hbytes : N * bytes ≤ 140737488355328) (hbase : base ≤ w.heap.size)
    (h : ∀ ao c w', w'.ownsRow base e 1 (.slice ao N c) N (xs ++ news) → w.grownBy w' v.ownBlock → ((Value.slice ao N c).ownBlock = v.ownBlock ∨ (Value.slice ao N c).ownBlock = some w.heap.size) → wpList P ops Q rest (a.put o.dst (.slice ao N c)) w') :
    wpList P ops Q (o :: rest) a w := by
  subst hN
  rcases hsl with ⟨h2, h3⟩ | ⟨ad, c, h2, h3, h4, h5⟩
  · subst h3
    refine wpList_append_own_none hgd s x t ho base e i 1 ht hi v n xs hs hown (hx.trans h2) ?_
    obtain ⟨ao, c, rfl⟩ := own_shape hown
    exact h ao c w (by simpa using hown) ⟨rfl, rfl, rfl, Nat.le_refl _, fun _ _ _ => rfl⟩ (.inl rfl)
  · refine wpList_append_own_at w hgd s x t ho base e i z 1 bytes ht hi hz hsize hby hzs (by omega) v n xs hs hown ad news.length c news (hx.trans h2) (by simp) h5 h1 h63 hbytes hbase (fun v' w' a1 a2 _ a4 => ?_)
    obtain ⟨ao, c, rfl⟩ := own_shape a1
    exact h ao c w' a1 a2 a4

/-- numbers of one kind as values -/
def ofK (k : IntKind) (bs : List Int) : List Value := bs.map (Value.int k)
theorem length_ofK (k : IntKind) (bs : List Int) : (ofK k bs).length = bs.length := by simp [ofK]
theorem one_ofK (k : IntKind) (bs : List Int) : ∀ u ∈ ofK k bs, u.oneCell' = true := by
  intro u hu; obtain ⟨b, _, rfl⟩ := List.mem_map.1 hu; rfl
theorem get_ofK (k : IntKind) (bs : List Int) (i : Nat) (h : i < bs.length) : (ofK k bs)[i]? = some (.int k bs[i]) := by simp [ofK, h]

/-- A slice of the call's own reads as what it owns. -/
theorem Sl.of_owns {w : World} {base : Nat} {e : TypeId} {v : Value} {n : Nat} {xs : List Value} (h : w.ownsRow base e 1 v n xs) : Sl w v xs := by
  obtain ⟨h1, h2 | ⟨g, cap, cur, hv, hg, hh, hn, hc, hs, ht⟩⟩ := h
  · obtain ⟨rfl, rfl⟩ := h2
    exact .inl ⟨rfl, List.eq_nil_of_length_eq_zero (by simpa using h1)⟩
  · refine .inr ⟨⟨g, 0, none⟩, cap, by rw [hv, h1]; simp, by omega, hc, fun i u hu => ?_⟩
    exact World.ownsRow.cells (w := w) (base := base) (e := e) (size := 1) (v := v) (n := n) (xs := xs) ⟨h1, .inr ⟨g, cap, cur, hv, hg, hh, hn, hc, hs, ht⟩⟩ (by rw [hv]; rfl) i u hu

theorem Sl.shape {w : World} {v : Value} {xs : List Value} (h : Sl w v xs) :
    ∃ ao c, v = .slice ao xs.length c ∧ xs.length ≤ c ∧ c ≤ maxLen ∧ (0 < xs.length → ∃ b o, ao = some ⟨b, o, none⟩ ∧ b < w.heap.size ∧ ∀ j u, xs[j]? = some u → w.cell? ⟨b, o + j, none⟩ = some u) := by
  rcases h with ⟨rfl, rfl⟩ | ⟨ad, c, h1, h2, h3, h4⟩
  · exact ⟨none, 0, rfl, Nat.le_refl _, by unfold maxLen; omega, fun h => by simp at h⟩
  · refine ⟨some ad, c, h1, h2, h3, fun h0 => ?_⟩
    obtain ⟨b, o, sp⟩ := ad
    have hc := h4 0 xs[0] (by simp)
    have hsp : sp = none := by simpa [Addr.add] using World.cell?_spot hc
    subst hsp
    refine ⟨b, o, rfl, by simpa [Addr.add] using block_of_cell hc, fun j u hj => ?_⟩
    have := h4 j u hj
    unfold Addr.add at this
    by_cases hj0 : j = 0
    · subst hj0; simpa using this
    · simpa [hj0] using this

theorem Addr.add_add (a : Addr) (i j : Nat) : (a.add i).add j = a.add (i + j) := by
  obtain ⟨b, o, sp⟩ := a
  unfold Addr.add
  by_cases hi : i = 0
  · subst hi; simp
  · by_cases hj : j = 0
    · subst hj; simp [hi]
    · simp [hi, hj]; omega

/-- x[:n] -/
theorem Sl.take {w : World} {ao : Option Addr} {len c : Nat} {xs : List Value} (h : Sl w (.slice ao len c) xs) (n : Nat) (hn : n ≤ xs.length) : Sl w (.slice ao n c) (xs.take n) := by
  rcases h with ⟨h1, rfl⟩ | ⟨ad, c', h1, h2, h3, h4⟩
  · cases h1; obtain rfl : n = 0 := by simpa using hn
    exact .inl ⟨rfl, rfl⟩
  · cases h1
    refine .inr ⟨ad, c, by simp [hn], by simp; omega, h3, fun i u hu => ?_⟩
    rw [List.getElem?_take] at hu
    split at hu
    · exact h4 i u hu
    · cases hu

/-- x[n:], n below the capacity -/
theorem Sl.drop {w : World} {ao : Option Addr} {len c : Nat} {xs : List Value} (h : Sl w (.slice ao len c) xs) (n : Nat) (hn : n ≤ xs.length) : Sl w (.slice (Option.map (fun x => x.add n) ao) (xs.length - n) (c - n)) (xs.drop n) := by
  rcases h with ⟨h1, rfl⟩ | ⟨ad, c', h1, h2, h3, h4⟩
  · cases h1; obtain rfl : n = 0 := by simpa using hn
    exact .inl ⟨rfl, rfl⟩
  · cases h1
    refine .inr ⟨ad.add n, c - n, by simp, by simp; omega, by omega, fun i u hu => ?_⟩
    rw [List.getElem?_drop] at hu
    rw [Addr.add_add]; exact h4 _ u hu

/-- x[n:], n the capacity -/
theorem Sl.drop_all {w : World} {ao : Option Addr} {len c : Nat} {xs : List Value} (h : Sl w (.slice ao len c) xs) (n : Nat) (hn : n ≤ xs.length) (hc : c = n) : Sl w (.slice ao 0 0) (xs.drop n) := by
  rcases h with ⟨h1, rfl⟩ | ⟨ad, c', h1, h2, h3, h4⟩
  · cases h1; obtain rfl : n = 0 := by simpa using hn
    exact .inl ⟨rfl, rfl⟩
  · cases h1
    have e : xs.length = n := by omega
    rw [show xs.drop n = [] by simp [e]]
    exact .inr ⟨ad, 0, by simp, by simp, by unfold maxLen; omega, fun i u hu => by simp at hu⟩

/-- a slice stays what it reads where its block stays -/
theorem Sl.keep {S : Nat → Prop} {w w' : World} {v : Value} {xs : List Value} (h : Sl w v xs) (hc : Ch S w w') (hv : ∀ k, v.ownBlock = some k → ¬ S k) : Sl w' v xs := by
  rcases h with h | ⟨ad, c, k1, k2, k3, k4⟩
  · exact .inl h
  · refine .inr ⟨ad, c, k1, k2, k3, fun i u hu => ?_⟩
    have hcc := k4 i u hu
    have hlt := block_of_cell hcc
    rw [add_block] at hlt
    rw [hc.cell (by rw [add_block]; exact hlt) (by rw [add_block]; exact hv _ (by rw [k1]; rfl))]; exact hcc

theorem ownBlock_drop (ao : Option Addr) (n a b a' b' : Nat) : (Value.slice (Option.map (fun x => x.add n) ao) a b).ownBlock = (Value.slice ao a' b').ownBlock := by
  cases ao with
  | none => rfl
  | some x => simp [Value.ownBlock, add_block]
theorem ownBlock_len (ao : Option Addr) (a b a' b' : Nat) : (Value.slice ao a b).ownBlock = (Value.slice ao a' b').ownBlock := by
  cases ao <;> rfl
theorem take_ofK (k : IntKind) (bs : List Int) (n : Nat) : (ofK k bs).take n = ofK k (bs.take n) := by simp [ofK]
theorem drop_ofK (k : IntKind) (bs : List Int) (n : Nat) : (ofK k bs).drop n = ofK k (bs.drop n) := by simp [ofK]

/-- two cells of a struct, one of them written -/
theorem two_set0 {w : World} {b : Nat} {x y u : Value} {t : TypeId} (h : w.heap[b]? = some (.cells #[x, y] t (0, 0))) : (w.setCell ⟨b, 0, none⟩ u).heap[b]? = some (.cells #[u, y] t (0, 0)) := by
  have hlt := lt_of_block h
  have h' : w.heap[b] = .cells #[x, y] t (0, 0) := by simpa [Array.getElem?_eq_getElem hlt] using h
  show (w.heap.modify b _)[b]? = _
  rw [Array.getElem?_eq_getElem (by simpa using hlt), Array.getElem_modify_self, h']; rfl
theorem two_set1 {w : World} {b : Nat} {x y u : Value} {t : TypeId} (h : w.heap[b]? = some (.cells #[x, y] t (0, 0))) : (w.setCell ⟨b, 1, none⟩ u).heap[b]? = some (.cells #[x, u] t (0, 0)) := by
  have hlt := lt_of_block h
  have h' : w.heap[b] = .cells #[x, y] t (0, 0) := by simpa [Array.getElem?_eq_getElem hlt] using h
  show (w.heap.modify b _)[b]? = _
  rw [Array.getElem?_eq_getElem (by simpa using hlt), Array.getElem_modify_self, h']; rfl

/-- a call of a function that has a body enters it -/
theorem run_callFunc_body {P : Program} {f : FuncId} {fn : Func} (hf : P.funcs[f]? = some fn) (hname : (fn.name == "runtime.NumGoroutine") = false) (hb : fn.body.isNone = false) (args : Array Value) (w : World) :
    Sem.run P (callFunc f args) w = .ok (.enter f args) w := by
  have h1 : ¬ fn.name = "runtime.NumGoroutine" := by simpa using hname
  have h2 : ¬ fn.body = none := by intro h; rw [h] at hb; cases hb
  simp [callFunc, hf, go_sem, h1, h2]

theorem Ch.set (w : World) (p : Addr) (u : Value) : Ch (· = p.block) w (w.setCell p u) := (Ch.refl (· = p.block) w).setCell (.inl rfl) u

/-- block g is a row, known whole: the cells xs, none of them frozen -/
def Blk (w : World) (g : Nat) (e : TypeId) (xs : List Value) : Prop := w.heap[g]? = some (.cells xs.toArray e (0, 0))

theorem Blk.lt {w : World} {g : Nat} {e : TypeId} {xs : List Value} (h : Blk w g e xs) : g < w.heap.size := lt_of_block h
theorem Blk.cell {w : World} {g : Nat} {e : TypeId} {xs : List Value} (h : Blk w g e xs) (i : Nat) : w.cell? ⟨g, i, none⟩ = xs[i]? := by
  unfold Blk at h; simp [World.cell?, h]
theorem Blk.free {w : World} {g : Nat} {e : TypeId} {xs : List Value} (h : Blk w g e xs) (i : Nat) : w.frozen? ⟨g, i, none⟩ = false := by
  unfold Blk at h; simp [World.frozen?, h]
theorem Blk.set {w : World} {g : Nat} {e : TypeId} {xs : List Value} (h : Blk w g e xs) (i : Nat) (u : Value) : Blk (w.setCell ⟨g, i, none⟩ u) g e (xs.set i u) := by
  unfold Blk at *
  have hlt := lt_of_block h
  have h' : w.heap[g] = .cells xs.toArray e (0, 0) := by simpa [Array.getElem?_eq_getElem hlt] using h
  show (w.heap.modify g _)[g]? = _
  rw [Array.getElem?_eq_getElem (by simpa using hlt), Array.getElem_modify_self, h']
  simp
theorem Blk.keep {S : Nat → Prop} {w w' : World} {g : Nat} {e : TypeId} {xs : List Value} (h : Blk w g e xs) (hc : Ch S w w') (hb : ¬ S g) : Blk w' g e xs := by
  unfold Blk at *; rw [hc.block g (lt_of_block h) hb]; exact h
theorem Blk.below {B : Nat} {w w' : World} {g : Nat} {e : TypeId} {xs : List Value} (h : Blk w g e xs) (hc : Below B w w') (hb : g < B) : Blk w' g e xs := by
  unfold Blk at *; rw [hc.block g hb]; exact h
theorem Blk.alloc {w : World} {g : Nat} {e : TypeId} {xs : List Value} (h : Blk w g e xs) (o : Obj) : Blk (w.alloc o) g e xs := by
  unfold Blk; rw [Below.heap_alloc _ _ _ h.lt]; exact h
theorem Blk.new (w : World) (xs : List Value) (e : TypeId) : Blk (w.alloc (.cells xs.toArray e)) w.heap.size e xs := heap_alloc_new _ _
theorem Blk.owns {w : World} {g base : Nat} {e : TypeId} {xs : List Value} (h : Blk w g e xs) (hb : base ≤ g) (hm : xs.length ≤ maxLen) : w.ownsRow base e 1 (.slice (some ⟨g, 0, none⟩) xs.length xs.length) xs.length xs :=
  ⟨by simp, .inr ⟨g, xs.length, xs.toArray, rfl, hb, h, Nat.le_refl _, hm, by simp, by simp⟩⟩
/-- a cut of the row reads as the cut -/
theorem Blk.sl {w : World} {g : Nat} {e : TypeId} {xs : List Value} (h : Blk w g e xs) (off n c : Nat) (hn : off + n ≤ xs.length) (hc : n ≤ c) (hm : c ≤ maxLen) : Sl w (.slice (some ⟨g, off, none⟩) n c) ((xs.drop off).take n) := by
  refine .inr ⟨⟨g, off, none⟩, c, by congr 1; simp; omega, by simp; omega, hm, fun i u hu => ?_⟩
  rw [List.getElem?_take] at hu
  split at hu
  · rw [List.getElem?_drop] at hu
    have : (Addr.add ⟨g, off, none⟩ i) = ⟨g, off + i, none⟩ := by unfold Addr.add; split <;> simp_all
    rw [this, h.cell]; exact hu
  · cases hu

theorem wpList_make_blk {P : Program} (w : World) {ops : Array Oper} {rest : List Oper} {o : Oper} {a : Act} {Q : Exit → Act → World → Prop} (hgd : o.guard = none) (l c : Operand) (t : TypeId)
    (ho : o.op = .makeSlice t l c) (e : TypeId) (i : TypeInfo) (z : Value) (ht : P.underlying t = some (.slice e)) (hi : P.info? e = some i) (hz : i.zero = some z) (hsize : i.size = 1) (hzc : z.cells = #[z])
    (kl kc : IntKind) (L C : Int) (n : Nat) (hl : a.eval l = .int kl L) (hc : a.eval c = .int kc C) (hL : L = n) (hC : C = n) (hby : i.bytes * n ≤ 281474976710656) (hm : n ≤ maxLen)
    (h : ∀ w', Blk w' w.heap.size e (List.replicate n z) → Below w.heap.size w w' → w.heap.size < w'.heap.size → wpList P ops Q rest (a.put o.dst (.slice (some ⟨w.heap.size, 0, none⟩) n n)) w') :
    wpList P ops Q (o :: rest) a w := by
  refine wpList_make_full w hgd l c t ho w.heap.size e i z 1 ht hi hz hsize kl kc L C n hl hc hL hC hby hm (Nat.le_refl _) (fun w' hown hgr => ?_)
  refine h w' ?_ ((Below.refl _ _).grown hgr (Nat.le_refl _) (fun k h => by cases h)) (hown.lt _ rfl).2
  obtain ⟨h1, h2 | ⟨g, cap, cur, hv, hg, hh, hn, hcm, hs, htk⟩⟩ := hown
  · cases h2.1
  · cases hv
    unfold Blk
    rw [hh]
    have e1 : cur.toList = (madeCells z.cells (n * 1)).toList := by rw [← htk, List.take_of_length_le (by simp [hs])]
    have e2 : cur = madeCells z.cells (n * 1) := by rw [← Array.toList_inj]; exact e1
    have e3 : (madeCells z.cells (n * 1)) = (List.replicate n z).toArray := by
      rw [hzc]; apply Array.ext
      · simp [madeCells]
      · intro j h1 h2; simp [madeCells, Nat.mod_one]
    rw [e2, e3]

theorem wpList_copy_blk {P : Program} (w : World) {ops : Array Oper} {rest : List Oper} {o : Oper} {a : Act} {Q : Exit → Act → World → Prop} (hgd : o.guard = none) (d s : Operand) (dT sT : TypeId)
    (ho : o.op = .call { callee := .builtin .copy, args := #[d, s], argTypes := #[dT, sT] }) (elem : TypeId) (hu : P.underlying dT = some (.slice elem)) (hsz : (P.info? elem).map (·.size) = some 1)
    (g off dLen dCap : Nat) (hd : a.eval d = .slice (some ⟨g, off, none⟩) dLen dCap) (vx : Value) (hs : a.eval s = vx) (cs : List Value) (hsl : Sl w vx cs)
    (cur : List Value) (t : TypeId) (hg : Blk w g t cur) (hfit : off + cs.length ≤ cur.length) (hle : cs.length ≤ dLen) (h1 : ∀ v ∈ cs, v.oneCell' = true)
    (h : ∀ w', Blk w' g t (splice cur off cs) → Ch (· = g) w w' → wpList P ops Q rest (a.put o.dst (goInt cs.length)) w') :
    wpList P ops Q (o :: rest) a w := by
  have key : ∀ sp sCap, vx = .slice sp cs.length sCap → (0 < cs.length → ∃ ad, sp = some ad ∧ ∀ j v, cs[j]? = some v → w.cell? (ad.add j) = some v) → wpList P ops Q (o :: rest) a w := by
    intro sp sCap e hpos
    by_cases h0 : cs.length = 0
    · obtain rfl : cs = [] := List.eq_nil_of_length_eq_zero h0
      refine wpList_copy_nothing hgd d s dT sT ho elem hu hsz _ sp dLen dCap 0 sCap hd (hs.trans e) (by simp) ?_
      exact h w (by simpa [splice] using hg) (Ch.refl _ _)
    · obtain ⟨ad, rfl, hsrc⟩ := hpos (by omega)
      refine wpList_copy_own hgd d s dT sT ho elem hu hsz g off dLen dCap ad cs.length sCap hd (hs.trans e) cur.toArray t hg cs (by show cs.length = min cs.length dLen; omega) hsrc (by simpa using hfit) h1 ?_
      refine h _ ?_ ⟨rfl, rfl, rfl, by simp [World.setRow], fun k hk hne => setRow_other w g k _ hne⟩
      unfold Blk
      simpa [splice] using setRow_heap w g _ _ t _ hg
  rcases hsl with ⟨rfl, rfl⟩ | ⟨ad, c, h2, _, _, h5⟩
  · exact key none 0 rfl (fun h => by simp at h)
  · exact key (some ad) c h2 (fun _ => ⟨ad, rfl, h5⟩)

/-- bytes as a string's -/
def toU8 (bs : List Int) : List UInt8 := bs.map fun n => UInt8.ofNat n.toNat
def toB (bs : List Int) : ByteArray := ⟨(toU8 bs).toArray⟩
def AllB (bs : List Int) : Prop := ∀ c ∈ bs, 0 ≤ c ∧ c ≤ 255

theorem allB_of {bs : List Int} (h : bs.all (fun c => decide (0 ≤ c) && decide (c ≤ 255)) = true) : AllB bs := by
  intro c hc
  have := List.all_eq_true.1 h c hc
  simpa using this

theorem toU8_back {bs : List Int} (h : AllB bs) : (toU8 bs).map (fun u => (u.toNat : Int)) = bs := by
  unfold toU8
  rw [List.map_map]
  conv => rhs; rw [← List.map_id bs]
  refine List.map_congr_left fun c hc => ?_
  have := h c hc
  simp only [Function.comp, UInt8.toNat_ofNat', id]
  omega
theorem toU8_inj {as bs : List Int} (ha : AllB as) (hb : AllB bs) (h : toU8 as = toU8 bs) : as = bs := by
  rw [← toU8_back ha, ← toU8_back hb, h]
theorem toB_inj {as bs : List Int} (ha : AllB as) (hb : AllB bs) (h : toB as = toB bs) : as = bs := by
  refine toU8_inj ha hb ?_
  unfold toB at h
  have := congrArg ByteArray.data h
  simpa using this

theorem run_convert_sl {P : Program} (w : World) (src dst e : TypeId) (hs : P.underlying src = some (.slice e)) (he : P.underlying e = some (.int .u8)) (hd : P.underlying dst = some .string)
    (v : Value) (bs : List Int) (h : Sl w v (ofK .u8 bs)) (hb : AllB bs) : (convert src dst v).run P w = .ok (.string (toB bs)) w := by
  rcases h with ⟨rfl, h2⟩ | ⟨ad, c, rfl, h2, h3, h4⟩
  · have : bs = [] := by simpa [ofK] using h2
    subst this
    rw [run_convert_bytes_string w src dst e none 0 0 hs he hd]
    simp [Conv.bytesToString, toB, toU8]
    rfl
  · have e1 : (ofK .u8 bs).length = (toU8 bs).length := by simp [ofK, toU8]
    rw [e1]
    refine run_convert_bytes_back w src dst e ad c (toU8 bs) hs he hd (fun j hj => h4 j _ ?_)
    have hj' : j < bs.length := by simpa [toU8] using hj
    rw [get_ofK _ _ _ hj']
    have := hb bs[j] (List.getElem_mem hj')
    simp [toU8]
    omega

theorem toList_toB (bs : List Int) : (toB bs).toList = toU8 bs := by rw [ByteArray.toList_eq]; simp [toB]
theorem eq_toB {xs ys : List Int} (ha : AllB xs) (hb : AllB ys) : ((toB xs).toList == (toB ys).toList) = decide (xs = ys) := by
  rw [toList_toB, toList_toB, Bool.eq_iff_iff, beq_iff_eq, decide_eq_true_eq]
  exact ⟨toU8_inj ha hb, fun h => by rw [h]⟩

/-- a slice literal reads as its numbers -/
theorem sl_new (w : World) (k : IntKind) (bs : List Int) (e : TypeId) (C : Array Value) (n : Nat) (hC : C = (ofK k bs).toArray) (hn : n = bs.length) (hm : n ≤ 65536) : Sl (w.alloc (.cells C e)) (.slice (some ⟨w.heap.size, 0, none⟩) n n) (ofK k bs) := by
  subst hC hn
  have := (Blk.new w (ofK k bs) e).sl 0 bs.length bs.length (by simp [ofK]) (Nat.le_refl _) (by unfold maxLen; omega)
  rw [List.drop_zero, List.take_of_length_le (by simp [ofK])] at this
  exact this

theorem sl_at (w : World) (H : Nat) (hH : w.heap.size = H) (k : IntKind) (bs : List Int) (e : TypeId) (C : Array Value) (n : Nat) (hC : C = (ofK k bs).toArray) (hn : n = bs.length) (hm : n ≤ 65536) : Sl (w.alloc (.cells C e)) (.slice (some ⟨H, 0, none⟩) n n) (ofK k bs) := by
  subst hH; exact sl_new w k bs e C n hC hn hm

theorem below_ch {B : Nat} {S : Nat → Prop} {w w1 w2 : World} (h : Below B w w1) (hc : Ch S w1 w2) (hs : B ≤ w.heap.size) (hb : ∀ k, S k → B ≤ k) : Below B w w2 :=
  ⟨hc.os.trans h.os, hc.tape.trans h.tape, hc.output.trans h.output, Nat.le_trans h.size hc.size, fun k hk => (hc.block k (by have := h.size; omega) (fun s => by have := hb k s; omega)).trans (h.block k hk)⟩
theorem below_thn {B : Nat} {w w1 w2 : World} (h : Below B w w1) (hc : Below w1.heap.size w1 w2) (hs : B ≤ w.heap.size) : Below B w w2 :=
  h.trans (hc.mono (Nat.le_trans hs h.size))

/-- the same memory: at most draws lie between -/
structure Sm (w w' : World) : Prop where
  os : w'.os = w.os
  tape : w'.tape = w.tape
  output : w'.output = w.output
  heap : w'.heap = w.heap
theorem Sm.refl (w : World) : Sm w w := ⟨rfl, rfl, rfl, rfl⟩
theorem Sm.drew {w w' : World} (h : Sm w w') : Sm w w'.drew := ⟨h.os, h.tape, h.output, h.heap⟩
theorem Sm.drewN {w w' : World} (h : Sm w w') (n : Nat) : Sm w (w'.drewN n) := ⟨h.os, h.tape, h.output, h.heap⟩
theorem Sm.trans {a b c : World} (h : Sm a b) (k : Sm b c) : Sm a c := ⟨k.os.trans h.os, k.tape.trans h.tape, k.output.trans h.output, k.heap.trans h.heap⟩
theorem Sm.below {w w' : World} (h : Sm w w') (B : Nat) : Below B w w' := ⟨h.os, h.tape, h.output, by rw [h.heap]; exact Nat.le_refl _, fun _ _ => by rw [h.heap]⟩
theorem Sm.ch {w w' : World} (h : Sm w w') (S : Nat → Prop) : Ch S w w' := ⟨h.os, h.tape, h.output, by rw [h.heap]; exact Nat.le_refl _, fun _ _ _ => by rw [h.heap]⟩
theorem Sm.size {w w' : World} (h : Sm w w') : w'.heap.size = w.heap.size := by rw [h.heap]
theorem Sm.cell {w w' : World} (h : Sm w w') (a : Addr) : w'.cell? a = w.cell? a := by simp [World.cell?, h.heap]
theorem Sm.sl {w w' : World} (h : Sm w w') {v : Value} {xs : List Value} (k : Sl w v xs) : Sl w' v xs := k.keep (h.ch (fun _ => False)) (fun _ _ => id)
theorem Sm.owns {w w' : World} (h : Sm w w') {base : Nat} {e : TypeId} {size : Nat} {v : Value} {n : Nat} {xs : List Value} (k : w.ownsRow base e size v n xs) : w'.ownsRow base e size v n xs := by
  unfold World.ownsRow at *; rw [h.heap]; exact k
theorem Sm.blk {w w' : World} (h : Sm w w') {g : Nat} {e : TypeId} {xs : List Value} (k : Blk w g e xs) : Blk w' g e xs := by
  unfold Blk at *; rw [h.heap]; exact k

/-- a slice of numbers, opened for a walk -/
theorem Sl.nums {w : World} {v : Value} {k : IntKind} {bs : List Int} (h : Sl w v (ofK k bs)) :
    ∃ ao c, v = .slice ao bs.length c ∧ bs.length ≤ c ∧ c ≤ 9223372036854775807 ∧ (0 < bs.length → ∃ b o, ao = some ⟨b, o, none⟩ ∧ b < w.heap.size ∧ ∀ j (hj : j < bs.length), w.cell? ⟨b, o + j, none⟩ = some (.int k bs[j])) := by
  obtain ⟨ao, c, h1, h2, h3, h4⟩ := h.shape
  rw [length_ofK] at h1 h2 h4
  refine ⟨ao, c, h1, h2, by unfold maxLen at h3; omega, fun h0 => ?_⟩
  obtain ⟨b, o, e, hb, hc⟩ := h4 h0
  exact ⟨b, o, e, hb, fun j hj => hc j _ (get_ofK _ _ _ hj)⟩

end Go.Proofs.Ytkbhehnpgnilmaa
