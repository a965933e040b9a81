/-
  A row of acts that grows, beside two disks; what a crash keeps, plain. Conditions: none.
-/
import Derived.Test.YticcjaccpcnjhaaSettle
import Derived.Deep.AppendLies
namespace Go.Proofs.Yticcjaccpcnjhaa
open Go Go.RowKit

abbrev Ac := ActD × Value
def actsC (l : List Ac) : List Value := l.flatMap (fun e => actC e.1 e.2)
theorem actC_len (a : ActD) (kv : Value) : (actC a kv).length = 5 := rfl
theorem actsC_snoc (l : List Ac) (e : Ac) : actsC (l ++ [e]) = actsC l ++ actC e.1 e.2 := by simp [actsC]
theorem actsC_at : ∀ {l : List Ac} (i : Nat) (hi : i < l.length) (j : Nat), j < 5 → (actsC l)[i * 5 + j]? = (actC l[i].1 l[i].2)[j]?
  | e :: l, 0, _, j, hj => by
    simp only [actsC, List.flatMap_cons, Nat.zero_mul, Nat.zero_add, List.getElem_cons_zero]
    rw [List.getElem?_append_left (by rw [actC_len]; exact hj)]
  | e :: l, i + 1, hi, j, hj => by
    have := actsC_at (l := l) i (by simpa using hi) j hj
    simp only [actsC, List.flatMap_cons, List.getElem_cons_succ] at *
    rw [List.getElem?_append_right (by rw [actC_len]; omega), actC_len, show (i + 1) * 5 + j - 5 = i * 5 + j by omega]
    exact this

theorem own_acts {w : World} {base : Nat} {lv : Value} {l : List Ac} (ho : w.ownsRow base 49 5 lv l.length (actsC l)) : ∃ ao c, lv = .slice ao l.length c ∧ l.length ≤ c ∧ c ≤ maxLen ∧ (0 < l.length → ∃ g, ao = some ⟨g, 0, none⟩ ∧ ∀ k (hk : k < l.length), w.rangeAt g (k * 5) (actC l[k].1 l[k].2)) := by
  obtain ⟨h1, ⟨rfl, h2⟩ | ⟨g, cap, C, rfl, h4, h5, h6⟩⟩ := ho
  · exact ⟨none, 0, by rw [h2], by omega, Nat.zero_le _, fun h => by omega⟩
  · refine ⟨_, _, rfl, h6.1, h6.2.1, fun _ => ⟨g, rfl, fun k hk j v hv => ?_⟩⟩
    have hj : j < 5 := by
      have := (List.getElem?_eq_some_iff.1 hv).1
      rwa [actC_len] at this
    have hc := World.ownsRow.cells (w := w) (base := base) (e := 49) (size := 5) (v := .slice (some ⟨g, 0, none⟩) l.length cap) (n := l.length) (xs := actsC l) ⟨h1, .inr ⟨g, cap, C, rfl, h4, h5, h6⟩⟩ (g := g) rfl (k * 5 + j) v (by rw [actsC_at k hk j hj]; exact hv)
    have : (Addr.add ⟨g, 0, none⟩ (k * 5 + j)) = ⟨g, k * 5 + j, none⟩ := by unfold Addr.add; split <;> simp_all
    rw [this] at hc; exact hc

/-- two disks, a row of acts of the call's own, and blocks that are known whole -/
structure EnvL (w wr : World) (p : Nat) (x : Dk) (o : Option (Nat × Dk)) (lv : Value) (l : List Ac) (bs : List (Nat × TypeId × List Value)) : Prop where
  duo : Duo w wr p x o (fun k => lv.ownBlock = some k ∨ k ∈ bs.map (·.1))
  row : wr.ownsRow w.heap.size 49 5 lv l.length (actsC l)
  nodup : (bs.map (·.1)).Nodup
  apart : ∀ e ∈ bs, lv.ownBlock ≠ some e.1
  blk : ∀ e ∈ bs, Blk wr e.1 e.2.1 e.2.2

section
variable {w wr w' : World} {p g : Nat} {x x' : Dk} {o : Option (Nat × Dk)} {lv : Value} {l : List Ac} {bs : List (Nat × TypeId × List Value)} {t : TypeId} {zs cs : List Value}

theorem EnvL.of (h : Duo w wr p x o (fun _ => False)) : EnvL w wr p x o (.slice none 0 0) [] [] :=
  ⟨h.less (fun k hk => by rcases hk with hk | hk; simp [Value.ownBlock] at hk; simp at hk), ⟨rfl, .inl ⟨rfl, rfl⟩⟩, by simp, fun e he => by simp at he, fun e he => by simp at he⟩
theorem EnvL.b (h : EnvL w wr p x o lv l bs) : Below w.heap.size w wr := h.duo.b
theorem EnvL.did (h : EnvL w wr p x o lv l bs) {o' : Option (Nat × Dk)} (hd : Did w wr w' p x' o' (fun k => lv.ownBlock = some k ∨ k ∈ bs.map (·.1))) : EnvL w w' p x' o' lv l bs :=
  ⟨hd.1, own_ch h.row hd.2 (fun _ hk hn => hn (.inl hk)), h.nodup, h.apart, fun e he => (h.blk e he).keep hd.2 (fun hn => hn (.inr (List.mem_map.2 ⟨e, he, rfl⟩)))⟩
theorem EnvL.below (h : EnvL w wr p x o lv l bs) (hb : Below wr.heap.size wr w') : EnvL w w' p x o lv l bs := h.did (did_below h.duo hb)
theorem EnvL.swap {q : Nat} {y : Dk} (h : EnvL w wr p x (some (q, y)) lv l bs) : EnvL w wr q y (some (p, x)) lv l bs := { h with duo := h.duo.swap }
theorem EnvL.nil (h : EnvL w wr p x o lv l bs) : EnvL w wr p x o (.slice none 0 0) [] bs :=
  ⟨h.duo.less (fun k hk => by rcases hk with hk | hk; simp [Value.ownBlock] at hk; exact .inr hk), ⟨rfl, .inl ⟨rfl, rfl⟩⟩, h.nodup, fun e he => by simp [Value.ownBlock], h.blk⟩
theorem EnvL.bare (h : EnvL w wr p x o lv l bs) : EnvL w wr p x o lv l [] :=
  ⟨h.duo.less (fun k hk => by rcases hk with hk | hk; exact .inl hk; simp at hk), h.row, by simp, fun e he => by simp at he, fun e he => by simp at he⟩

theorem EnvL.new (h : EnvL w wr p x o lv l bs) (hb : Blk w' wr.heap.size t zs) (hbel : Below wr.heap.size wr w') (hs : w'.heap.size = wr.heap.size + 1) : EnvL w w' p x o lv l ((wr.heap.size, t, zs) :: bs) := by
  have h' := h.below hbel
  obtain ⟨S, T, g1, g2, g3, g4, g5, g6⟩ := h.duo
  refine ⟨(h.duo.more hbel hs).less (fun k hk => ?_), h'.row, ?_, fun e he => ?_, fun e he => ?_⟩
  · rcases hk with hk | hk
    · exact .inl (.inl hk)
    · simp only [List.map_cons, List.mem_cons] at hk
      rcases hk with hk | hk
      · exact .inr hk
      · exact .inl (.inr hk)
  · refine List.nodup_cons.2 ⟨fun hm => ?_, h.nodup⟩
    have := (g5 _ (.inr hm)).2
    exact Nat.lt_irrefl _ this
  · rcases List.mem_cons.1 he with rfl | he
    · intro hl
      have := (g5 _ (.inl hl)).2
      exact Nat.lt_irrefl _ this
    · exact h.apart e he
  · rcases List.mem_cons.1 he with rfl | he
    · exact hb
    · exact h'.blk e he

theorem EnvL.hd (h : EnvL w wr p x o lv l ((g, t, zs) :: bs)) : Blk wr g t zs := h.blk (g, t, zs) (by simp)
theorem EnvL.tl {b : Nat × TypeId × List Value} (h : EnvL w wr p x o lv l (b :: bs)) : EnvL w wr p x o lv l bs :=
  ⟨h.duo.less (fun k hk => by rcases hk with hk | hk; exact .inl hk; simp only [List.map_cons, List.mem_cons]; exact .inr (.inr hk)), h.row, (List.nodup_cons.1 h.nodup).2, fun e he => h.apart e (by simp [he]), fun e he => h.blk e (by simp [he])⟩
theorem EnvL.hd2 {b : Nat × TypeId × List Value} (h : EnvL w wr p x o lv l (b :: (g, t, zs) :: bs)) : Blk wr g t zs := h.tl.hd
theorem EnvL.put (h : EnvL w wr p x o lv l ((g, t, zs) :: bs)) (hb : Blk w' g t cs) (hc : Ch (· = g) wr w') : EnvL w w' p x o lv l ((g, t, cs) :: bs) := by
  refine ⟨h.duo.store hc (.inr (by simp)), own_ch h.row hc (fun k hk (e : k = g) => h.apart (g, t, zs) (by simp) (by rw [← e]; exact hk)), h.nodup, fun e he => ?_, fun e he => ?_⟩
  · rcases List.mem_cons.1 he with rfl | he
    · exact h.apart (g, t, zs) (by simp)
    · exact h.apart e (by simp [he])
  · rcases List.mem_cons.1 he with rfl | he
    · exact hb
    · refine (h.blk e (by simp [he])).keep hc (fun (hh : e.1 = g) => ?_)
      exact (List.nodup_cons.1 h.nodup).1 (List.mem_map.2 ⟨e, he, hh⟩)

/-- an act more -/
theorem EnvL.push (h : EnvL w wr p x o lv l bs) (e : Ac) {cap : Nat} (hr : w'.ownsRow w.heap.size 49 5 (.slice (some ⟨g, 0, none⟩) (l.length + 1) cap) (l.length + 1) (actsC l ++ actC e.1 e.2))
    (hg : wr.grownBy w' lv.ownBlock) (ha : lv.ownBlock = some g ∨ g = wr.heap.size) (hl : g < w'.heap.size) : EnvL w w' p x o (.slice (some ⟨g, 0, none⟩) (l.length + 1) cap) (l ++ [e]) bs := by
  have hc := ch_grown hg
  have hsz := hc.size
  obtain ⟨S, T, g1, g2, g3, g4, g5, g6⟩ := h.duo
  have h6 := g6.size
  have hgB : w.heap.size ≤ g := by rcases ha with ha | ha; exact (g5 g (.inl ha)).1; omega
  have hgS : ∀ k, S k → k ≠ g := fun k hk e => by
    subst e
    rcases ha with ha | ha
    · exact (g3 k hk).2.2 (.inl ha)
    · have := g1.bd k hk; omega
  have hgT : ∀ k, T k → k ≠ g := fun k hk e => by
    subst e
    rcases ha with ha | ha
    · exact (g4 k hk).2.2 (.inl ha)
    · have := (g4 k hk).2.1; omega
  refine ⟨⟨S, T, g1.keep hc (fun k hk e => (g3 k hk).2.2 (.inl e)), g2.keep hc (fun k hk e => (g4 k hk).2.2 (.inl e)), fun k hk => ⟨(g3 k hk).1, (g3 k hk).2.1, ?_⟩, fun k hk => ⟨(g4 k hk).1, by have := (g4 k hk).2.1; omega, ?_⟩, fun k hk => ?_, below_ch g6 hc (Nat.le_refl _) (fun k hk => (g5 k (.inl hk)).1)⟩, ?_, h.nodup, fun e he hh => ?_, fun e he => (h.blk e he).keep hc (fun hh => h.apart e he hh)⟩
  · rintro (hr | hr)
    · exact hgS k hk (by have : g = k := by simpa [Value.ownBlock] using hr
                         exact this.symm)
    · exact (g3 k hk).2.2 (.inr hr)
  · rintro (hr | hr)
    · exact hgT k hk (by have : g = k := by simpa [Value.ownBlock] using hr
                         exact this.symm)
    · exact (g4 k hk).2.2 (.inr hr)
  · rcases hk with hk | hk
    · have : g = k := by simpa [Value.ownBlock] using hk
      omega
    · exact ⟨(g5 k (.inr hk)).1, by have := (g5 k (.inr hk)).2; omega⟩
  · rw [actsC_snoc, List.length_append]; exact hr
  · have : g = e.1 := by simpa [Value.ownBlock] using hh
    rcases ha with ha | ha
    · exact h.apart e he (by rw [ha, this])
    · have := (g5 e.1 (.inr (List.mem_map.2 ⟨e, he, rfl⟩))).2; omega
end

/-! what a crash keeps -/
def wrOf (e : Ac) : Wr := (e.1.at_, fil e.1.fill)
def wrsOf (l : List Ac) : List Wr := l.map wrOf

theorem sF_snoc (keep : Nat → Bool) (f : Int → List Int) (l : List Wr) (e : Wr) : ∀ k, k ≤ l.length → sF keep f (l ++ [e]) k = sF keep f l k
  | 0, _ => rfl
  | k + 1, h => by
    unfold sF
    rw [sF_snoc keep f l e k (by omega), List.getD_eq_getElem?_getD, List.getD_eq_getElem?_getD, List.getElem?_append_left (by omega)]

theorem sF_all (f : Int → List Int) (l : List Wr) : ∀ k, k ≤ l.length → sF (fun _ => true) f l k = (l.take k).foldl lay f
  | 0, _ => by simp [sF]
  | k + 1, h => by
    unfold sF
    rw [if_pos rfl, sF_all f l k (by omega), List.take_add_one, List.foldl_append, List.getElem?_eq_getElem (by omega), List.getD_eq_getElem?_getD, List.getElem?_eq_getElem (by omega)]
    rfl

theorem holds_snoc {y : Dk} (e : Wr) (n : Int) (j : Int) : ({ y with loose := y.loose ++ [e], ops := n } : Dk).holds j = lay y.holds e j := by
  show (y.loose ++ [e]).foldl lay y.firm j = _
  rw [List.foldl_append]; rfl

theorem lay_congr {f g : Int → List Int} (h : ∀ j, f j = g j) (e : Wr) (j : Int) : lay f e j = lay g e j := by unfold lay; split; rfl; exact h j

end Go.Proofs.Yticcjaccpcnjhaa
