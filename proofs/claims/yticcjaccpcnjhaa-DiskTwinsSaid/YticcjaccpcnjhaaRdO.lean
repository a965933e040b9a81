/-
  Disks beside blocks that are known whole, and beside others (the reference's stories among them); an act of whatever kind. Conditions: numbers of their kinds; at most 2^30 writes and acts.
-/
import Derived.Test.YticcjaccpcnjhaaRdN
namespace Go.Proofs.Yticcjaccpcnjhaa
open Go Go.RowKit

abbrev Bs := List (Nat × TypeId × List Value)

/-- since w: the disk x at p, a second one, these blocks, and the others F -/
structure EnvR (w wr : World) (p : Nat) (x : Dk) (o : Option (Nat × Dk)) (F : Nat → Prop) (bs : Bs) : Prop where
  duo : Duo w wr p x o (fun k => F k ∨ k ∈ bs.map (·.1))
  nodup : (bs.map (·.1)).Nodup
  apart : ∀ e ∈ bs, ¬ F e.1
  blk : ∀ e ∈ bs, Blk wr e.1 e.2.1 e.2.2

theorem Duo.bound {w wr : World} {p : Nat} {x : Dk} {o : Option (Nat × Dk)} {R : Nat → Prop} (h : Duo w wr p x o R) : ∀ k, R k → w.heap.size ≤ k ∧ k < wr.heap.size := by
  obtain ⟨S, T, h1, h2, h3, h4, h5, h6⟩ := h
  exact h5

theorem Duo.grow {w wr w' : World} {p : Nat} {x : Dk} {o : Option (Nat × Dk)} {R : Nat → Prop} (h : Duo w wr p x o R) (hb : Below wr.heap.size wr w') : Duo w w' p x o (fun k => R k ∨ (wr.heap.size ≤ k ∧ k < w'.heap.size)) := by
  obtain ⟨S, T, h1, h2, h3, h4, h5, h6⟩ := h
  have hc := Ch.of_below (S := fun _ => False) hb (Nat.le_refl _)
  have := hb.size
  have := h6.size
  refine ⟨S, T, h1.keep hc (fun _ _ h => h), h2.keep hc (fun _ _ h => h), fun k hk => ⟨(h3 k hk).1, (h3 k hk).2.1, ?_⟩, fun k hk => ⟨(h4 k hk).1, by have := (h4 k hk).2.1; omega, ?_⟩, fun k hk => ?_, below_thn h6 hb (Nat.le_refl _)⟩
  · rintro (hr | hr)
    · exact (h3 k hk).2.2 hr
    · have := h1.bd k hk; omega
  · rintro (hr | hr)
    · exact (h4 k hk).2.2 hr
    · have := (h4 k hk).2.1; omega
  · rcases hk with hk | hk
    · exact ⟨(h5 k hk).1, by have := (h5 k hk).2; omega⟩
    · omega

section
variable {w wr w' : World} {p q g : Nat} {x x' : Dk} {o o' : Option (Nat × Dk)} {F F' : Nat → Prop} {bs : Bs} {t : TypeId} {zs cs : List Value}

theorem EnvR.of (h : Duo w wr p x o F) : EnvR w wr p x o F [] := ⟨h.less (fun k hk => by rcases hk with hk | hk; exact hk; simp at hk), by simp, fun e he => by simp at he, fun e he => by simp at he⟩
theorem EnvR.b (h : EnvR w wr p x o F bs) : Below w.heap.size w wr := h.duo.b
theorem EnvR.did (h : EnvR w wr p x o F bs) (hd : Did w wr w' q x' o' (fun k => F k ∨ k ∈ bs.map (·.1))) : EnvR w w' q x' o' F bs :=
  ⟨hd.1, h.nodup, h.apart, fun e he => (h.blk e he).keep hd.2 (fun hn => hn (.inr (List.mem_map.2 ⟨e, he, rfl⟩)))⟩
theorem EnvR.below (h : EnvR w wr p x o F bs) (hb : Below wr.heap.size wr w') : EnvR w w' p x o F bs := h.did (did_below h.duo hb)
theorem EnvR.swap {q : Nat} {y : Dk} (h : EnvR w wr p x (some (q, y)) F bs) : EnvR w wr q y (some (p, x)) F bs := ⟨h.duo.swap, h.nodup, h.apart, h.blk⟩
theorem EnvR.grow (h : EnvR w wr p x o F bs) (hb : Below wr.heap.size wr w') : EnvR w w' p x o (fun k => F k ∨ (wr.heap.size ≤ k ∧ k < w'.heap.size)) bs := by
  have h' := h.below hb
  refine ⟨(h.duo.grow hb).less (fun k hk => ?_), h.nodup, fun e he => ?_, h'.blk⟩
  · rcases hk with (hk | hk) | hk
    · exact .inl (.inl hk)
    · exact .inr hk
    · exact .inl (.inr hk)
  · rintro (hf | hf)
    · exact h.apart e he hf
    · have := (h.blk e he).lt; omega
theorem EnvR.less (h : EnvR w wr p x o F bs) (hf : ∀ k, F' k → F k) : EnvR w wr p x o F' bs :=
  ⟨h.duo.less (fun k hk => by rcases hk with hk | hk; exact .inl (hf k hk); exact .inr hk), h.nodup, fun e he hh => h.apart e he (hf _ hh), h.blk⟩
theorem EnvR.new (h : EnvR w wr p x o F bs) (hb : Blk w' wr.heap.size t zs) (hbel : Below wr.heap.size wr w') (hs : w'.heap.size = wr.heap.size + 1) : EnvR w w' p x o F ((wr.heap.size, t, zs) :: bs) := by
  have h' := h.below hbel
  have h5 := h.duo.bound
  refine ⟨(h.duo.more hbel hs).less (fun k hk => ?_), ?_, fun e he => ?_, fun e he => ?_⟩
  · simp only [List.map_cons, List.mem_cons] at hk
    rcases hk with hk | hk | hk
    · exact .inl (.inl hk)
    · exact .inr hk
    · exact .inl (.inr hk)
  · refine List.nodup_cons.2 ⟨fun hm => ?_, h.nodup⟩
    have := (h5 _ (.inr hm)).2
    exact Nat.lt_irrefl _ this
  · rcases List.mem_cons.1 he with rfl | he
    · intro hl
      have := (h5 _ (.inl hl)).2
      exact Nat.lt_irrefl _ this
    · exact h.apart e he
  · rcases List.mem_cons.1 he with rfl | he
    · exact hb
    · exact h'.blk e he
theorem EnvR.tl {b : Nat × TypeId × List Value} (h : EnvR w wr p x o F (b :: bs)) : EnvR w wr p x o F bs :=
  ⟨h.duo.less (fun k hk => by rcases hk with hk | hk; exact .inl hk; simp only [List.map_cons, List.mem_cons]; exact .inr (.inr hk)), (List.nodup_cons.1 h.nodup).2, fun e he => h.apart e (by simp [he]), fun e he => h.blk e (by simp [he])⟩
theorem EnvR.at (h : EnvR w wr p x o F bs) (i : Nat) (hi : bs[i]? = some (g, t, zs)) : Blk wr g t zs := h.blk (g, t, zs) (List.mem_of_getElem? hi)
theorem EnvR.rng (h : EnvR w wr p x o F bs) (i : Nat) (hi : bs[i]? = some (g, t, zs)) : wr.rangeAt g 0 zs := rangeW_blk (h.at i hi)

theorem EnvR.put (h : EnvR w wr p x o F bs) (i : Nat) (hi : bs[i]? = some (g, t, zs)) (hb : Blk w' g t cs) (hc : Ch (· = g) wr w') : EnvR w w' p x o F (bs.set i (g, t, cs)) := by
  have hm : (bs.set i (g, t, cs)).map (·.1) = bs.map (·.1) := by
    apply List.ext_getElem?
    intro j
    by_cases hj : i = j
    · subst hj
      have hlt := (List.getElem?_eq_some_iff.1 hi).1
      rw [List.getElem?_map, List.getElem?_set_self hlt, List.getElem?_map, hi]; rfl
    · rw [List.getElem?_map, List.getElem?_set_ne hj, List.getElem?_map]
  have hmem : (g, t, zs) ∈ bs := List.mem_of_getElem? hi
  refine ⟨by rw [hm]; exact h.duo.store hc (.inr (List.mem_map.2 ⟨_, hmem, rfl⟩)), by rw [hm]; exact h.nodup, fun e he => ?_, fun e he => ?_⟩
  · obtain ⟨j, hj⟩ := List.mem_iff_getElem?.1 he
    have h1 : (bs.map (·.1))[j]? = some e.1 := by rw [← hm, List.getElem?_map, hj]; rfl
    rw [List.getElem?_map] at h1
    obtain ⟨e0, he0, h2⟩ := Option.map_eq_some_iff.1 h1
    rw [← h2]
    exact h.apart e0 (List.mem_of_getElem? he0)
  · obtain ⟨j, hj⟩ := List.mem_iff_getElem?.1 he
    by_cases hij : i = j
    · subst hij
      have hlt := (List.getElem?_eq_some_iff.1 hi).1
      rw [List.getElem?_set_self hlt] at hj
      cases hj
      exact hb
    · rw [List.getElem?_set_ne hij] at hj
      refine (h.blk e (List.mem_of_getElem? hj)).keep hc (fun (hh : e.1 = g) => ?_)
      have a1 : (bs.map (·.1))[i]? = some g := by rw [List.getElem?_map, hi]; rfl
      have a2 : (bs.map (·.1))[j]? = some g := by rw [List.getElem?_map, hj, ← hh]; rfl
      have l1 := (List.getElem?_eq_some_iff.1 a1).1
      have := (List.getElem?_inj l1 h.nodup).1 (a1.trans a2.symm)
      exact hij this
theorem EnvR.ne (h : EnvR w wr p x o F bs) (i : Nat) (hi : bs[i]? = some (g, t, zs)) : ¬ F g := h.apart _ (List.mem_of_getElem? hi)
end

theorem fin_size {x x3 : Dk} {i : Int} {l : Bool} (h : x3.size = x.size) : (finD x i l x3).size = x.size := by
  unfold finD; split
  · exact h
  · exact askD_size x i l
theorem actF_size (x : Dk) (a : ActD) : (actF x a).size = x.size := by
  unfold actF
  split
  · exact fin_size (askD_size x _ _)
  split
  · exact fin_size (askD_size x _ _)
  split
  · exact fin_size (askD_size x _ _)
  split
  · unfold armF; split <;> rfl
  split
  · unfold failF; split <;> rfl
  split <;> rfl

/-- an act of whatever kind: the disk goes on, or its copy -/
theorem act_every {w wr : World} {p : Nat} {x : Dk} {o : Option (Nat × Dk)} {R : Nat → Prop} (a : ActD) (ao : Option Addr) (len cp n : Nat) (x' : Dk) (b : List Int) (m : Int) (h : Duo w wr p x o R) (hx : x.Ok n) (hn : n ≤ 1073741824) (ha : ActOk wr a (.slice ao len cp)) (h1 : actF x a = x') (h2 : actB x a = b) (h3 : actE x a = m) :
    Calls Try.prog 33 #[.pointer (some ⟨p, 0, none⟩), .agg (actC a (.slice ao len cp)).toArray] wr (fun e w' => ∃ q, e = .returned (.tuple #[.pointer (some ⟨q, 0, none⟩), .agg (ofK .u8 b).toArray, .int .i64 m]) ∧ Did w wr w' q x' o R) := by
  obtain ⟨S, T, g1, g2, g3, g4, g5, g6⟩ := h
  subst h1 h2 h3
  refine (act_any p S x a ao len cp n wr g1 hx hn ha).mono ?_
  rintro e w' ⟨q, rfl, hd, hc, _, _⟩
  exact ⟨q, rfl, did_step g2 g3 g4 g5 g6 hd hc⟩

/-- the reference's story beside it; what was there at w0 within R is as it was -/
structure EnvS (w w0 wr : World) (p : Nat) (x : Dk) (o : Option (Nat × Dk)) (R F : Nat → Prop) (bs : Bs) (sv : Value) (st : List Wr) : Prop where
  env : EnvR w wr p x o F bs
  told : StAt wr sv st
  row : ∀ k, sv.ownBlock = some k → F k
  sub : ∀ k, R k → F k
  ch : Ch (fun k => ¬ R k) w0 wr

section
variable {w w0 wr w' : World} {p q g : Nat} {x x' : Dk} {o o' : Option (Nat × Dk)} {R F : Nat → Prop} {bs : Bs} {t : TypeId} {zs cs : List Value} {sv sv' : Value} {st st' : List Wr}

theorem EnvS.did (h : EnvS w w0 wr p x o R F bs sv st) (hd : Did w wr w' q x' o (fun k => F k ∨ k ∈ bs.map (·.1))) : EnvS w w0 w' q x' o R F bs sv st :=
  ⟨h.env.did hd, h.told.keep hd.2 (fun k hk hn => hn (.inl (h.row k hk))), h.row, h.sub, h.ch.trans' hd.2 (fun i _ hn hr => hn (.inl (h.sub i hr)))⟩
theorem EnvS.below (h : EnvS w w0 wr p x o R F bs sv st) (hb : Below wr.heap.size wr w') : EnvS w w0 w' p x o R F bs sv st := h.did (did_below h.env.duo hb)
theorem EnvS.new (h : EnvS w w0 wr p x o R F bs sv st) (hb : Blk w' wr.heap.size t zs) (hbel : Below wr.heap.size wr w') (hs : w'.heap.size = wr.heap.size + 1) : EnvS w w0 w' p x o R F ((wr.heap.size, t, zs) :: bs) sv st :=
  ⟨h.env.new hb hbel hs, h.told.below hbel, h.row, h.sub, (h.below hbel).ch⟩
theorem EnvS.put (h : EnvS w w0 wr p x o R F bs sv st) (i : Nat) (hi : bs[i]? = some (g, t, zs)) (hb : Blk w' g t cs) (hc : Ch (· = g) wr w') : EnvS w w0 w' p x o R F (bs.set i (g, t, cs)) sv st :=
  ⟨h.env.put i hi hb hc, h.told.keep hc (fun k hk e => h.env.ne i hi ((show k = g from e) ▸ h.row k hk)), h.row, h.sub, h.ch.trans' hc (fun j _ e hr => h.env.ne i hi ((show j = g from e) ▸ h.sub j hr))⟩
theorem EnvS.tl {b : Nat × TypeId × List Value} (h : EnvS w w0 wr p x o R F (b :: bs) sv st) : EnvS w w0 wr p x o R F bs sv st := ⟨h.env.tl, h.told, h.row, h.sub, h.ch⟩
/-- another story has been told since -/
theorem EnvS.tell (h : EnvS w w0 wr p x o R F bs sv st) (hb : Below wr.heap.size wr w') (hs : StAt w' sv' st') (hk : ∀ k, sv'.ownBlock = some k → sv.ownBlock = some k ∨ (wr.heap.size ≤ k ∧ k < w'.heap.size)) : EnvS w w0 w' p x o R (fun k => F k ∨ (wr.heap.size ≤ k ∧ k < w'.heap.size)) bs sv' st' :=
  ⟨h.env.grow hb, hs, fun k e => by
    rcases hk k e with e | e
    · exact .inl (h.row k e)
    · exact .inr e, fun k e => .inl (h.sub k e), (h.below hb).ch⟩
theorem EnvS.bound (h : EnvS w w0 wr p x o R F bs sv st) : ∀ k, sv.ownBlock = some k → k < wr.heap.size := fun k hk => (h.env.duo.bound k (.inl (h.row k hk))).2
end

theorem src_next {sv0 sv sv1 : Value} {A B C : Nat} (h : ∀ k, sv.ownBlock = some k → sv0.ownBlock = some k ∨ A ≤ k) (h1 : ∀ k, sv1.ownBlock = some k → sv.ownBlock = some k ∨ (B ≤ k ∧ k < C)) (hs : A ≤ B) : ∀ k, sv1.ownBlock = some k → sv0.ownBlock = some k ∨ A ≤ k := fun k e => by
  rcases h1 k e with e | e
  · exact h k e
  · exact .inr (by omega)
theorem sup_next {R F : Nat → Prop} {A B C : Nat} (h : ∀ k, F k → R k ∨ A ≤ k) (hs : A ≤ B) : ∀ k, (F k ∨ (B ≤ k ∧ k < C)) → R k ∨ A ≤ k := fun k e => by
  rcases e with e | e
  · exact h k e
  · exact .inr (by omega)

/-- how lived stands: the disk, the reference's box and result, the story -/
structure LivI (w w0 : World) (o : Option (Nat × Dk)) (R : Nat → Prop) (B4 B7 : Nat) (sv0 : Value) (N n k : Nat) (s0 : Int) (q : Nat) (x : Dk) (F : Nat → Prop) (fm : Nat) (sv : Value) (st : List Wr) (wr : World) : Prop where
  env : EnvS w w0 wr q x o R F [(B7, 30, rZ), (B4, 30, rC x fm sv)] sv st
  src : ∀ k, sv.ownBlock = some k → sv0.ownBlock = some k ∨ w0.heap.size ≤ k
  sup : ∀ k, F k → R k ∨ w0.heap.size ≤ k
  ref : RefOf x st fm
  len : st.length ≤ N + k
  ok : x.Ok (n + k)
  size : x.size = s0

/-- what lived tells -/
def LivedP (w w0 : World) (o : Option (Nat × Dk)) (R : Nat → Prop) (sv0 : Value) (N n : Nat) (s0 : Int) (e : Ending) (w' : World) : Prop :=
  ∃ q y fm' sv' st' R', e = .returned (.tuple #[.pointer (some ⟨q, 0, none⟩), .agg (rC y fm' sv').toArray, .bool true]) ∧ Duo w w' q y o R' ∧ StAt w' sv' st' ∧ (∀ k, sv'.ownBlock = some k → R' k ∧ (sv0.ownBlock = some k ∨ w0.heap.size ≤ k)) ∧ (∀ k, R k → R' k) ∧ (∀ k, R' k → R k ∨ w0.heap.size ≤ k) ∧ Ch (fun k => ¬ R k) w0 w' ∧ RefOf y st' fm' ∧ st'.length ≤ N ∧ y.Ok n ∧ y.size = s0

end Go.Proofs.Yticcjaccpcnjhaa
