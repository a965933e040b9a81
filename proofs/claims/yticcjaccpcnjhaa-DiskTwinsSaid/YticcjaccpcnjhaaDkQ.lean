/-
  wakes, walked. Conditions: none.
-/
import Derived.Test.YticcjaccpcnjhaaDkO
import Derived.Test.YticcjaccpcnjhaaEqA
namespace Go.Proofs.Yticcjaccpcnjhaa
open Go Go.RowKit

def wD0 : Dk := newD 3
def wD1 : Dk := writeD wD0 2 (fil 7)
def wD2 : Dk := writeD wD1 0 (fil 8)
def wD3 : Dk := writeD wD2 2 (fil 8)
def wD4 : Dk := crashD [true] wD3
def wD5 : Dk := armF wD4 0
def wD6 : Dk := syncD wD5
def wD7 : Dk := crashD [] wD6
def wD8 : Dk := readD wD7 2
def wD9 : Dk := readD wD8 0

theorem wE1 : askE wD0 2 true = 0 := by rfl
theorem wE2 : askE wD1 0 true = 0 := by rfl
theorem wE3 : askE wD2 2 true = 0 := by rfl
theorem wP3 : wrAts wD3.loose = [2, 0, 2] := by rfl
theorem wL3 : wD3.loose.length = 3 := by rfl
theorem wE5 : powE wD4 = 0 := by rfl
theorem wE6 : askE wD5 0 true = 9 := by rfl
theorem wO6 : wD6.out = true := by rfl
theorem wE8 : askE wD7 2 false = 0 := by rfl
theorem wB8 : readB wD7 2 = fil 7 := by rfl
theorem wE9 : askE wD8 0 false = 0 := by rfl
theorem wB9 : readB wD8 0 = zer := by rfl
theorem wO9 : wD9.ops = 5 := by rfl

theorem f7 : IsB (fil 7) := isB_fil (by omega) (by omega)
theorem f8 : IsB (fil 8) := isB_fil (by omega) (by omega)
theorem wK0 : wD0.Ok 9 := newD_ok (by omega) (by omega) 9
theorem wK1 : wD1.Ok 10 := writeD_ok wK0 2 f7
theorem wK2 : wD2.Ok 11 := writeD_ok wK1 0 f8
theorem wK3 : wD3.Ok 12 := writeD_ok wK2 2 f8
theorem wK4 : wD4.Ok 12 := crashD_ok wK3 _
theorem wK5 : wD5.Ok 12 := armF_ok wK4 (by omega)
theorem wK6 : wD6.Ok 13 := syncD_ok wK5
theorem wK7 : wD7.Ok 13 := crashD_ok wK6 _
theorem wK8 : wD8.Ok 14 := readD_ok wK7 2
theorem wK9 : wD9.Ok 15 := readD_ok wK8 0

theorem write_at (p : Nat) (S : Nat → Prop) (x x' : Dk) (i : Int) (b : List Int) (m : Int) (n : Nat) (w : World) (h : DkAt w p S x) (hx : x.Ok n) (hn : n ≤ 1073741824) (hb : IsB b) (h1 : writeD x i b = x') (h2 : askE x i true = m) :
    Calls Try.prog 21 #[.pointer (some ⟨p, 0, none⟩), .int .i64 i, .agg (ofK .u8 b).toArray] w (ActP w p S x' (.int .i64 m)) := by
  rw [← h1, ← h2]; exact write_any p S x i b n w h hx hn hb
theorem sync_at (p : Nat) (S : Nat → Prop) (x x' : Dk) (m : Int) (n : Nat) (w : World) (h : DkAt w p S x) (hx : x.Ok n) (hn : n ≤ 1073741824) (h1 : syncD x = x') (h2 : askE x 0 true = m) :
    Calls Try.prog 23 #[.pointer (some ⟨p, 0, none⟩)] w (ActP w p S x' (.int .i64 m)) := by
  rw [← h1, ← h2]; exact sync_any p S x n w h hx hn
theorem read_at (p : Nat) (S : Nat → Prop) (x x' : Dk) (i : Int) (b : List Int) (m : Int) (n : Nat) (w : World) (h : DkAt w p S x) (hx : x.Ok n) (hn : n ≤ 1073741824) (h1 : readD x i = x') (h2 : askE x i false = m) (h3 : readB x i = b) :
    Calls Try.prog 17 #[.pointer (some ⟨p, 0, none⟩), .int .i64 i] w (ReadP w p S x' b m) := by
  rw [← h1, ← h2, ← h3]; exact read_any p S x i n w h hx hn
theorem arm_at (p : Nat) (S : Nat → Prop) (x x' : Dk) (k m : Int) (w : World) (h : DkAt w p S x) (h1 : armF x k = x') (h2 : powE x = m) :
    Calls Try.prog 24 #[.pointer (some ⟨p, 0, none⟩), .int .i64 k] w (ActP w p S x' (.int .i64 m)) := by
  rw [← h1, ← h2]; exact (arm_any p S x k w h).mono fun e w' ⟨h1, h2, h3⟩ => ⟨h1, h2.gr, h3.mono (fun k hk => hk ▸ h.sp)⟩
theorem fail_at (p : Nat) (S : Nat → Prop) (x x' : Dk) (k m : Int) (w : World) (h : DkAt w p S x) (h1 : failF x k = x') (h2 : powE x = m) :
    Calls Try.prog 25 #[.pointer (some ⟨p, 0, none⟩), .int .i64 k] w (ActP w p S x' (.int .i64 m)) := by
  rw [← h1, ← h2]; exact (fail_any p S x k w h).mono fun e w' ⟨h1, h2, h3⟩ => ⟨h1, h2.gr, h3.mono (fun k hk => hk ▸ h.sp)⟩
theorem dead_at (p : Nat) (S : Nat → Prop) (x : Dk) (b : Bool) (w : World) (h : DkAt w p S x) (h1 : x.out = b) : Calls Try.prog 28 #[.pointer (some ⟨p, 0, none⟩)] w (fun e w' => e = .returned (.bool b) ∧ w = w') := by
  rw [← h1]; exact dead_any p S x w h
theorem ops_at (p : Nat) (S : Nat → Prop) (x : Dk) (m : Int) (w : World) (h : DkAt w p S x) (h1 : x.ops = m) : Calls Try.prog 27 #[.pointer (some ⟨p, 0, none⟩)] w (fun e w' => e = .returned (.int .i64 m) ∧ w = w') := by
  rw [← h1]; exact ops_any p S x w h
theorem len_at (p : Nat) (S : Nat → Prop) (x : Dk) (m : Int) (w : World) (h : DkAt w p S x) (h1 : x.size = m) : Calls Try.prog 26 #[.pointer (some ⟨p, 0, none⟩)] w (fun e w' => e = .returned (.int .i64 m) ∧ w = w') := by
  rw [← h1]; exact len_any p S x w h
theorem crash_at (p : Nat) (S : Nat → Prop) (x x' : Dk) (ao : Option Addr) (len c : Nat) (bs : List Bool) (n : Nat) (w : World) (h : DkAt w p S x) (hx : x.Ok n) (hn : n ≤ 1073741824) (hs : Sl w (.slice ao len c) (bs.map Value.bool)) (hv : ∀ k, (Value.slice ao len c).ownBlock = some k → ¬ S k) (h1 : crashD bs x = x') :
    Calls Try.prog 15 #[.pointer (some ⟨p, 0, none⟩), .slice ao len c] w (ActP w p S x' (.int .i64 0)) := by
  rw [← h1]; exact crash_any p S x ao len c bs n w h hx hn hs hv

/-- the disk and two blocks -/
structure WK (base w : World) (p : Nat) (S : Nat → Prop) (D : Dk) (bx b2 : Nat) : Prop where
  d : DkAt w p S D
  x : Blk w bx 39 (ofK .u8 (fil 7))
  y : Blk w b2 39 (ofK .u8 (fil 8))
  nx : ¬ S bx
  ny : ¬ S b2
  b : Below base.heap.size base w
  s : ∀ k, S k → base.heap.size ≤ k

theorem WK.below {base w w' : World} {p : Nat} {S : Nat → Prop} {D : Dk} {bx b2 : Nat} (h : WK base w p S D bx b2) (hb : Below w.heap.size w w') : WK base w' p S D bx b2 :=
  ⟨h.d.keep (Ch.of_below (S := fun _ => False) hb (Nat.le_refl _)) (fun _ _ h => h), h.x.below hb h.x.lt, h.y.below hb h.y.lt, h.nx, h.ny, below_thn h.b hb (Nat.le_refl _), h.s⟩
theorem WK.step {base w w' : World} {p : Nat} {S : Nat → Prop} {D D' : Dk} {bx b2 : Nat} (h : WK base w p S D bx b2) (hd : DkAt w' p (Gr S w w') D') (hc : Ch S w w') : WK base w' p (Gr S w w') D' bx b2 :=
  ⟨hd, h.x.keep hc h.nx, h.y.keep hc h.ny, fun k => by
    rcases k with k | k
    · exact h.nx k
    · have := h.x.lt; omega, fun k => by
    rcases k with k | k
    · exact h.ny k
    · have := h.y.lt; omega, below_ch h.b hc (Nat.le_refl _) h.s, fun k hk => by
    rcases hk with hk | hk
    · exact h.s k hk
    · have := h.b.size; omega⟩

theorem wpList_build_want {P : Program} {ops : Array Oper} {rest : List Oper} {o : Oper} {a : Act} {w : World} {Q : Exit → Act → World → Prop} (hgd : Region.wanted o (yielded ops a.tmps) = true) (t : TypeId) (parts : Array (Nat × Operand)) (ho : o.op = .build t parts) (vs : Array (Nat × Value)) (hv : parts.map (fun (i, x) => (i, a.eval x)) = vs) (v : Value)
    (hrun : ∀ w, (Instr.build t vs).run P w = .ok v w) (h : wpList P ops Q rest (a.put o.dst v) w) : wpList P ops Q (o :: rest) a w :=
  wpList_step fun _ hK => by
    rw [if_pos hgd]
    unfold Oper.wp
    rw [exec_build ho hv (hrun w)]
    exact hK _ _ h

theorem Try.buildZ : ∀ w, (Instr.build 39 #[]).run Try.prog w = .ok (.agg (ofK .u8 zer).toArray) w := fun w => by kernel_rfl

theorem eq_blocks (w : World) (a b : List Int) (r : Bool) (ha : IsB a) (hb : IsB b) (hr : decide (a = b) = r) : (Op.equalIn 10000 39 (.agg (ofK .u8 a).toArray) (.agg (ofK .u8 b).toArray)).run Try.prog w = .ok r w := by
  rw [← hr]
  exact run_equalIn_arrK (P := Try.prog) w .u8 9998 39 5 64 Try.underlying39 Try.underlying5 (fun _ => by rfl) a b ha.1 hb.1

end Go.Proofs.Yticcjaccpcnjhaa
