/-
  Law 06: what the laws' walks share. Conditions: bytes.
-/
import Derived.Test.YtkbhehnpgnilmaaWtQ
import Derived.Test.YtkbhehnpgnilmaaWtN
import Derived.Test.YtkbhehnpgnilmaaFrame
namespace Go.Proofs.Ytkbhehnpgnilmaa
open Go Go.RowKit
set_option linter.unusedSimpArgs false

theorem wpList_load_want {P : Program} {ops : Array Oper} {rest : List Oper} {op : Oper} {a : Act} {w : World} {Q : Exit → Act → World → Prop} (hgd : Region.wanted op (yielded ops a.tmps) = true) (ty : TypeId) (x : Operand) (ho : op.op = .load ty x)
    (b o : Nat) (hx : a.eval x = .pointer (some ⟨b, o, none⟩)) (cs : List Value) (d : TypeDesc) (hc : w.rangeAt b o cs)
    (hu : P.underlying ty = some d) (hd : d.isRow = true) (hi : (P.info? ty).map (·.size) = some cs.length)
    (h : wpList P ops Q rest (a.put op.dst (.agg cs.toArray)) w) : wpList P ops Q (op :: rest) a w :=
  wpList_step fun _ hK => by rw [if_pos hgd]; exact wp_load_mid ty x ho b o hx cs d hc hu hd hi (hK _ _ h)

theorem wpList_build_want {P : Program} {ops : Array Oper} {rest : List Oper} {o : Oper} {a : Act} {w : World} {Q : Exit → Act → World → Prop} (hgd : Region.wanted o (yielded ops a.tmps) = true) (t : TypeId) (parts : Array (Nat × Operand)) (ho : o.op = .build t parts) (vs : Array (Nat × Value)) (hv : parts.map (fun (i, x) => (i, a.eval x)) = vs) (v : Value)
    (hrun : ∀ w, (Instr.build t vs).run P w = .ok v w) (h : wpList P ops Q rest (a.put o.dst v) w) : wpList P ops Q (o :: rest) a w :=
  wpList_step fun _ hK => by
    rw [if_pos hgd]
    unfold Oper.wp
    rw [exec_build ho hv (hrun w)]
    exact hK _ _ h

theorem wpList_build_zer {ops : Array Oper} {rest : List Oper} {o : Oper} {a : Act} {w : World} {Q : Exit → Act → World → Prop} (hgd : Region.wanted o (yielded ops a.tmps) = true) (ho : o.op = .build 23 #[])
    (h : wpList Try.prog ops Q rest (a.put o.dst (.agg (ofK .u8 zer32).toArray)) w) : wpList Try.prog ops Q (o :: rest) a w :=
  wpList_build_want hgd 23 #[] ho #[] (by simp) _ Try.buildId h

/-- whether a walk may be asked -/
def ChOk (c a b : Int) : Prop := (0 ≤ c ∧ c < 67) ∧ 0 ≤ a ∧ a ≤ b ∧ b ≤ 15
theorem chain_good (x : List Int) (c a b : Int) (w : World) (hx : IsD x) (h : ChOk c a b) :
    Calls Try.prog 53 #[.agg (ofK .u8 x).toArray, .int .i64 c, .int .i64 a, .int .i64 b] w (DigP w (walkB x c a (b - a).toNat) 0) :=
  chain_ok x c a b w hx h.1.1 h.1.2 h.2.1 h.2.2.1 h.2.2.2

end Go.Proofs.Ytkbhehnpgnilmaa
