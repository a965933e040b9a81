/-
  What is shown of an operation in a plain activation holds of it in a round of a range over a function (or in no round) as well: operations and drawn regions. No program in sight. Conditions: no defer statement among them.
-/
import Derived.Test.YtkbhehnpgnilmaaRg
import Derived.Test.YtkbhehnpgnilmaaWide
import Derived.RangeFuncNested
import Derived.RangeFuncBound
import Derived.RangeFuncCalls
import Derived.RangeFuncLeaves
import Derived.Shelf.Abstract
import Derived.Shelf.RegionOpen
import Derived.WalkKit
import Derived.OwnWalkIn
import Derived.TacticsInMore
import Derived.LoopNIn
import Derived.LoopIn
namespace Go.Proofs.Ytkbhehnpgnilmaa
open Go Go.RowKit Go.Sort

/-- a fence that asks nothing -/
structure WideF (F : Fence) : Prop where
  fn : ∀ f, F.fn f
  dep : F.depth.isSome = false
  calls : ∀ {n : Nat} {P : Program} {f : FuncId} {args : Array Value} {w : World} {R : Ending → World → Prop}, Calls P f args w R → CallsIn F n P f args w R
  rows : ∀ {n : Nat} {P : Program} {row : String} {args : Array Value} {w : World} {R : Value → World → Prop}, Rows P row args w R → RowsIn F n P row args w R
theorem WideF.wide : WideF Fence.wide := ⟨fun _ => trivial, rfl, fun h => callsIn_wide.2 h, fun h c cs _ => let ⟨v, w', r, s⟩ := h c cs; ⟨v, w', r, stepsIn_wide.2 s⟩⟩
theorem WideF.round (l : Nat) : WideF (Fence.wide.inRound l) := ⟨fun _ => trivial, rfl, fun h => CallsIn.inRound l (callsIn_wide.2 h), fun h => WideF.wide.rows h⟩

/-- where the way goes on, and no other way -/
def QN (K : Act → World → Prop) : Exit → Act → World → Prop
  | .normal, a, w => K a w
  | _, _, _ => False
theorem QN.normal {K : Act → World → Prop} {a : Act} {w : World} (h : K a w) : QN K .normal a w := h
theorem QN.noPanic {K : Act → World → Prop} : ∀ c a a' w, QN K (.panic c) a' w → QN K (.panic c) a w := fun _ _ _ _ h => (h : False).elim
theorem QN.letsOut {K : Act → World → Prop} : ¬ LetsOut (QN K) := fun ⟨_, _, h⟩ => h

section
variable {F : Fence} {n : Nat} {P : Program} {ops : Array Oper} {K : Act → World → Prop} {Q : Exit → Act → World → Prop}

theorem oper_in (hF : WideF F) {o : Oper} (hd : ∀ c, o.op ≠ .defer c) {N : Act → World → Prop} {a : Act} {w : World} (h : o.wp P a w N (QN K)) : o.wpIn F n P a w N Q := by
  refine ⟨fun f _ => hF.fn f, ?_⟩
  rw [Oper.semAt_plain F _ _ hd]
  unfold Oper.wp at h
  generalize (execOp a.eval o).run P w = r at h
  have hdep : F.depth.isSome = true → 1 ≤ n := fun e => by rw [hF.dep] at e; cases e
  cases r with
  | ok m w' =>
    cases m with
    | value v => exact h
    | skip => exact h
    | defer d => exact h
    | enter f args =>
      refine ⟨hdep, hF.calls (Calls.mono h ?_)⟩
      intro e w'' he
      cases e with
      | returned v => exact he
      | panicked c => exact (he : False).elim
      | outgrown => exact (QN.letsOut he).elim
    | row row args => exact ⟨hdep, hF.rows h⟩
    | _ => exact (h : False).elim
  | halt x w' =>
    cases x <;> exact (h : False).elim

theorem wpListIn_by (hF : WideF F) {o : Oper} {rest : List Oper} (hd : ∀ c, o.op ≠ .defer c) {a : Act} {w : World} (h : wpList P ops (QN (wpListIn F n P ops Q rest)) [o] a w) : wpListIn F n P ops Q (o :: rest) a w := by
  unfold wpList at h
  unfold wpListIn
  split at h
  · rename_i hw
    rw [if_pos hw]
    refine oper_in hF hd (K := wpListIn F n P ops Q rest) (Oper.wp_mono (fun _ _ h => h) (h.elim (fun h => h) (fun h => (QN.letsOut h.2).elim)))
  · rename_i hw
    rw [if_neg hw]
    exact ⟨fun f _ => hF.fn f, h⟩
theorem wpList_qn {a : Act} {w : World} (h : K a w) : wpList P ops (QN K) [] a w := h

theorem wpOp_in (hF : WideF F) (hd : ∀ o ∈ ops.toList, ∀ c, o.op ≠ .defer c) {i : Nat} {N N' : Act → World → Prop} (hN : ∀ a w, N a w → N' a w) {a : Act} {w : World} (h : wpOp P ops (QN K) i N a w) : wpOpIn F n P ops Q i N' a w := by
  unfold wpOp at h
  unfold wpOpIn
  cases ho : ops[i]? with
  | none => rw [ho] at h; exact hN _ _ h
  | some o =>
    rw [ho] at h
    simp only at h ⊢
    split at h
    · rename_i hw
      rw [if_pos hw]
      refine oper_in hF (hd o (Array.mem_toList_iff.2 (Array.mem_of_getElem? ho))) (K := K) (Oper.wp_mono hN (h.elim (fun h => h) (fun h => (QN.letsOut h.2).elim)))
    · rename_i hw
      rw [if_neg hw]
      exact ⟨fun f _ => hF.fn f, hN _ _ h⟩

theorem wpAny_in (hF : WideF F) (hd : ∀ o ∈ ops.toList, ∀ c, o.op ≠ .defer c) (hQ : ∀ a w, K a w → Q .normal a w) {md : Region.Mode} : ∀ (fuel : Nat) (listed : Array Bool) (a : Act) (w : World), wpAny P md ops (QN K) fuel listed a w → wpAnyIn F n P md ops Q fuel listed a w
  | 0, _, _, _, h => ⟨h.1, hQ _ _ h.2⟩
  | fuel + 1, _, _, _, h => ⟨fun e => hQ _ _ (h.1 e), fun i hi => wpOp_in hF hd (fun a' w' h' => wpAny_in hF hd hQ fuel _ a' w' h') (h.2 i hi)⟩
end

section
variable {F : Fence} {n : Nat} {P : Program} {ops : Array Oper} {Q : Exit → Act → World → Prop} {rest : List Oper} {o : Oper} {a : Act}
theorem inL_load (hF : WideF F) (w : World) (hgd : o.guard = none) (ty : TypeId) (x : Operand) (ho : o.op = .load ty x)
    (b f : Nat) (hx : a.eval x = .pointer (some ⟨b, f, none⟩)) (cs : List Value) (d : TypeDesc) (hc : w.rangeAt b f cs)
    (hu : P.underlying ty = some d) (hd : d.isRow = true) (hi : (P.info? ty).map (·.size) = some cs.length)
    (h : wpListIn F n P ops Q rest (a.put o.dst (.agg cs.toArray)) w) : wpListIn F n P ops Q (o :: rest) a w :=
  wpListIn_by hF (by rw [ho]; intro c h; cases h) (wpList_load_any (by simp [Region.wanted, hgd]) ty x ho b f hx cs d hc hu hd hi (wpList_qn h))
theorem inL_alloc (hF : WideF F) (w : World) (hgd : o.guard = none) (t : TypeId) (ho : o.op = .alloc t) (zs : List Value) (hz : ∀ w, (zeroValue t).run P w = .ok (.agg zs.toArray) w)
    (h : ∀ w', Blk w' w.heap.size t zs → Below w.heap.size w w' → w'.heap.size = w.heap.size + 1 → wpListIn F n P ops Q rest (a.put o.dst (.pointer (some ⟨w.heap.size, 0, none⟩))) w') : wpListIn F n P ops Q (o :: rest) a w :=
  wpListIn_by hF (by rw [ho]; intro c h; cases h) (wpList_alloc_blk w hgd t ho zs hz fun w' h1 h2 h3 => wpList_qn (h w' h1 h2 h3))
theorem inL_store (hF : WideF F) (w : World) (hgd : o.guard = none) (ty : TypeId) (x y : Operand) (ho : o.op = .store ty x y)
    (g : Nat) (e : TypeId) (xs cells : List Value) (hb : Blk w g e xs) (hx : a.eval x = .pointer (some ⟨g, 0, none⟩)) (hy : a.eval y = .agg cells.toArray) (hl : cells.length = xs.length) (hi : (P.info? ty).map (·.size) = some cells.length) (h1 : ∀ v ∈ cells, v.oneCell' = true)
    (h : ∀ w', Blk w' g e cells → Ch (· = g) w w' → w'.heap.size = w.heap.size → wpListIn F n P ops Q rest (a.put o.dst undef) w') : wpListIn F n P ops Q (o :: rest) a w :=
  wpListIn_by hF (by rw [ho]; intro c h; cases h) (wpList_store_blk w hgd ty x y ho g e xs cells hb hx hy hl hi h1 fun w' h1 h2 h3 => wpList_qn (h w' h1 h2 h3))
theorem inL_slice1 (hF : WideF F) (w : World) (hgd : o.guard = none) (t : TypeId) (x : Operand) (ho : o.op = .buildSlice t 1 #[(0, x)]) {e : TypeId} {k : Nat} {zs : Array Value} (ht : P.underlying t = some (.slice e)) (hs : ∀ w, (sizeOf e).run P w = .ok k w) (hz : ∀ w, (zeroValue e).run P w = .ok (.agg zs) w) (hn0 : 0 < k) (hn : k ≤ 16777216)
    (cs : List Value) (hcs : cs.length = k) (hx : a.eval x = .agg cs.toArray) (h : ∀ w', Blk w' w.heap.size e cs → Below w.heap.size w w' → w'.heap.size = w.heap.size + 1 → wpListIn F n P ops Q rest (a.put o.dst (.slice (some ⟨w.heap.size, 0, none⟩) 1 1)) w') : wpListIn F n P ops Q (o :: rest) a w :=
  wpListIn_by hF (by rw [ho]; intro c h; cases h) (wpList_slice_one w hgd t x ho ht hs hz hn0 hn cs hcs hx fun w' h1 h2 h3 => wpList_qn (h w' h1 h2 h3))
end

/-- the region in a round: first these, then the rest -/
theorem wpIn_region_takes {F : Fence} {n : Nat} {P : Program} {id : Nat} {Q : Exit → Act → World → Prop} {a : Act} {w : World} {l : List Oper} (hF : WideF F) (hd : ∀ o ∈ l, ∀ c, o.op ≠ .defer c) (S : World → Prop) (is : List Nat) (fuel : Nat) (hm : P.follows .mixedOrders = true) (hn : l.length = is.length + fuel)
    (hsel : Region.noSelect l.toArray = true) (hB : takesB .any l.toArray is (Array.replicate l.toArray.size false) = true) (hS : S w.drew)
    (h : HeldL P l.toArray S is (fun a' => wpAnyH P .any l.toArray (QN (Q .normal)) S fuel (marks is (Array.replicate l.toArray.size false)) a' w.drew) a) : (Code.region id l.toArray true).wpIn F n P Q a w := by
  refine wpIn_region_any hm (wpAny_in hF (by simpa using hd) (K := Q .normal) (fun _ _ h => h) _ _ _ _ (wpAny_of_held (S := S) _ _ _ _ ?_))
  have := wpAnyH_takes (P := P) (md := .any) (Q := QN (Q .normal)) hsel QN.noPanic (fuel := fuel) hS is _ a hB h
  rw [← show l.toArray.size = is.length + fuel by simpa using hn] at this
  exact this

end Go.Proofs.Ytkbhehnpgnilmaa
