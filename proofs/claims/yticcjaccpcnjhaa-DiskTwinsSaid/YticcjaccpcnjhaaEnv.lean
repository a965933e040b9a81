/-
  Disks beside blocks that are known whole. Conditions: none.
-/
import Derived.Test.YticcjaccpcnjhaaLoseP
namespace Go.Proofs.Yticcjaccpcnjhaa
open Go Go.RowKit

/-- since w: the disk x at p, a second one, and these blocks -/
def Env (w wr : World) (p : Nat) (x : Dk) (o : Option (Nat × Dk)) (bs : List (Nat × TypeId × List Value)) : Prop :=
  Duo w wr p x o (fun k => k ∈ bs.map (·.1)) ∧ (bs.map (·.1)).Nodup ∧ ∀ e ∈ bs, Blk wr e.1 e.2.1 e.2.2

section
variable {w wr w' : World} {p g : Nat} {x x' : Dk} {o : Option (Nat × Dk)} {bs : List (Nat × TypeId × List Value)} {t : TypeId} {zs cs : List Value}

theorem Env.of (h : Duo w wr p x o (fun _ => False)) : Env w wr p x o [] := ⟨h.less (fun k hk => by simp at hk), by simp, fun e he => by simp at he⟩
theorem Env.end (h : Env w wr p x o bs) : Duo w wr p x o (fun _ => False) := h.1.less (fun _ hk => hk.elim)
theorem Env.b (h : Env w wr p x o bs) : Below w.heap.size w wr := h.1.b

theorem Env.did (h : Env w wr p x o bs) {o' : Option (Nat × Dk)} (hd : Did w wr w' p x' o' (fun k => k ∈ bs.map (·.1))) : Env w w' p x' o' bs :=
  ⟨hd.1, h.2.1, fun e he => (h.2.2 e he).keep hd.2 (fun hn => hn (List.mem_map.2 ⟨e, he, rfl⟩))⟩
theorem Env.below (h : Env w wr p x o bs) (hb : Below wr.heap.size wr w') : Env w w' p x o bs := h.did (did_below h.1 hb)
theorem Env.swap {q : Nat} {y : Dk} (h : Env w wr p x (some (q, y)) bs) : Env w wr q y (some (p, x)) bs := ⟨h.1.swap, h.2⟩

theorem Env.new (h : Env w wr p x o bs) (hb : Blk w' wr.heap.size t zs) (hbel : Below wr.heap.size wr w') (hs : w'.heap.size = wr.heap.size + 1) : Env w w' p x o ((wr.heap.size, t, zs) :: bs) := by
  have h' := h.below hbel
  obtain ⟨S, T, g1, g2, g3, g4, g5, g6⟩ := h.1
  refine ⟨(h.1.more hbel hs).less (fun k hk => ?_), ?_, fun e he => ?_⟩
  · simp only [List.map_cons, List.mem_cons] at hk
    exact hk.symm
  · refine List.nodup_cons.2 ⟨fun hm => ?_, h.2.1⟩
    have := (g5 _ hm).2
    exact Nat.lt_irrefl _ this
  · rcases List.mem_cons.1 he with rfl | he
    · exact hb
    · exact h'.2.2 e he

theorem Env.hd (h : Env w wr p x o ((g, t, zs) :: bs)) : Blk wr g t zs := h.2.2 (g, t, zs) (by simp)
theorem Env.tl {b : Nat × TypeId × List Value} (h : Env w wr p x o (b :: bs)) : Env w wr p x o bs :=
  ⟨h.1.less (fun k hk => by simp only [List.map_cons, List.mem_cons]; exact .inr hk), (List.nodup_cons.1 h.2.1).2, fun e he => h.2.2 e (by simp [he])⟩
theorem Env.hd2 {b : Nat × TypeId × List Value} (h : Env w wr p x o (b :: (g, t, zs) :: bs)) : Blk wr g t zs := h.tl.hd
theorem Env.hd3 {b c : Nat × TypeId × List Value} (h : Env w wr p x o (b :: c :: (g, t, zs) :: bs)) : Blk wr g t zs := h.tl.tl.hd

theorem Env.put (h : Env w wr p x o ((g, t, zs) :: bs)) (hb : Blk w' g t cs) (hc : Ch (· = g) wr w') : Env w w' p x o ((g, t, cs) :: bs) := by
  refine ⟨h.1.store hc (by simp), h.2.1, fun e he => ?_⟩
  rcases List.mem_cons.1 he with rfl | he
  · exact hb
  · refine (h.2.2 e (by simp [he])).keep hc (fun (hh : e.1 = g) => ?_)
    exact (List.nodup_cons.1 h.2.1).1 (List.mem_map.2 ⟨e, he, hh⟩)

theorem duo_start {w w1 w2 w3 : World} {p q : Nat} {x y : Dk} (h1 : Below w.heap.size w w1) (hd1 : DkAt w2 p (fun k => w1.heap.size ≤ k ∧ k < w2.heap.size) x) (hb2 : Below w1.heap.size w1 w2) (hd2 : DkAt w3 q (fun k => w2.heap.size ≤ k ∧ k < w3.heap.size) y) (hb3 : Below w2.heap.size w2 w3) :
    Env w w3 p x (some (q, y)) [] := by
  have := h1.size
  have := hb2.size
  have := hb3.size
  exact Env.of ⟨_, _, hd1.keep (Ch.of_below (S := fun _ => False) hb3 (Nat.le_refl _)) (fun _ _ h => h), hd2, fun k hk => ⟨by have := hk.1; omega, fun ht => by have := ht.1; have := hk.2; omega, fun h => h⟩, fun k hk => ⟨by have := hk.1; omega, hk.2, fun h => h⟩, fun k hk => hk.elim, below_thn (below_thn h1 hb2 (Nat.le_refl _)) hb3 (Nat.le_refl _)⟩
theorem duo_start1 {w w1 w2 : World} {p : Nat} {x : Dk} (h1 : Below w.heap.size w w1) (hd1 : DkAt w2 p (fun k => w1.heap.size ≤ k ∧ k < w2.heap.size) x) (hb2 : Below w1.heap.size w1 w2) : Env w w2 p x none [] := by
  have := h1.size
  exact Env.of ⟨_, fun _ => False, hd1, trivial, fun k hk => ⟨by have := hk.1; omega, fun h => h, fun h => h⟩, fun k hk => hk.elim, fun k hk => hk.elim, below_thn h1 hb2 (Nat.le_refl _)⟩

end

/-- an act of noughts -/
def actZ : List Value := [.int .i64 0, .int .i64 0, .int .i64 0, .int .u8 0, .slice none 0 0]
theorem Try.infoAct : (Try.prog.info? 49).map (·.size) = some 5 := by kernel_rfl
theorem Try.zeroAct : ∀ w, (zeroValue 49).run Try.prog w = .ok (.agg actZ.toArray) w := fun w => by kernel_rfl
theorem infoA (a : ActD) (kv : Value) : (Try.prog.info? 49).map (·.size) = some (actC a kv).length := Try.infoAct
theorem lenA (a : ActD) (kv : Value) : (actC a kv).length = actZ.length := rfl
theorem oneA (a : ActD) (ao : Option Addr) (len cp : Nat) : ∀ v ∈ actC a (.slice ao len cp), v.oneCell' = true := by
  intro v hv
  simp only [actC, List.mem_cons, List.not_mem_nil, or_false] at hv
  rcases hv with rfl | rfl | rfl | rfl | rfl <;> rfl
theorem lenB' {b : List Int} (h : IsB b) : (ofK .u8 b).length = (ofK .u8 zer).length := len_B h isB_zer

theorem contentL_eq {x y : Dk} (h1 : x.out = y.out) (h2 : x.loose = y.loose) (h3 : x.firm = y.firm) : contentL x = contentL y := by
  unfold contentL conTo Dk.holds; rw [h1, h2, h3]

end Go.Proofs.Yticcjaccpcnjhaa
