/-
  NARROWER THAN 'FOR EVERY INPUT', by the rows' own cells (each row's printed sentence says how): TermBack: loops · TermOrders: loops · TermEncodes: loops · TermOne: loops · TermLists: loops · TermMakes: loops.
  DERIVED. THE GIVEN ROWS OF THIS SEAT. 6 by the template 'for every input the law returns true; each argument reads behind the call as it read before'; 0 by the template 'total and deterministic' (their statements: YtfenikoajadiaaaTotals.lean).
  GIVEN WITH THE SEED: the statements are not yours to turn. If you find one false, say at which input.
  Laid BY PROGRAM, IN A SANDBOX (cutbox-rows.mjs): the forced cells as the released guide's own fill.sh prints them over the translation 2235c84695dfd8de… (all of the seat's roots in one cut). By AI agents, Wed Nov 11 2026. No macro, syntax, notation, axiom, sorry.
-/
import Derived.Test.YtfenikoajadiaaaChecked
import GoSem.Claim
import GoSem.ClaimJoined
import GoSem.ClaimMapViews
import Derived.JoinedTies
import Derived.KernelRfl
namespace Go.Proofs.Ytfenikoajadiaaa
/- THE CELL 'sum', in the pinned program and in every row, IS THE sha256 OF THE DUMP (.gsa) THAT YtfenikoajadiaaaProg.lean LOADS. Nothing in Lean hashes anything: it is a label: what it is worth is what the hold of that sum in a sandbox is worth. -/
noncomputable def Try.pinned : Pinned := { name := "ytfenikoajadiaaa", sum := "2235c84695dfd8de36626008438312b5123627094b768dd108df0bc0ab6cfb7c", checked := Try.checked }
namespace Rows
def none {H : Type} : Left H := { results := [], args := [] }

/-- 'safehouselaw05.TermBack': WHATEVER THE INPUT: true; the input reads as it did. -/
def termBackSpec : ChangeSpec := { name := "termBack", fn := fun _ => fun
  | [d1, d2, d3] => { results := [.lit (.bool true)], args := [d1, d2, d3] }
  | _ => none }
def termBackRow : OpenClaim := { program := "ytfenikoajadiaaa", sum := "2235c84695dfd8de36626008438312b5123627094b768dd108df0bc0ab6cfb7c", func := "safehouse/safehouselaw05.TermBack", spec := "termBack", unfollowed := true, recurses := true, loops := true, apart := false }
def TermBackSaid : Prop := termBackRow.holds Try.pinned (OpenSpec.ofChange termBackSpec)

/-- ITS FALSE NEIGHBOUR: 'it returns false'. Refute it at one input. -/
def termBackWrong : ChangeSpec := { name := "termBack", fn := fun _ => fun
  | [d1, d2, d3] => { results := [.lit (.bool false)], args := [d1, d2, d3] }
  | _ => none }
def TermBackWrongFalsely : Prop := termBackRow.holds Try.pinned (OpenSpec.ofChange termBackWrong)

/-- 'safehouselaw05.TermOrders': WHATEVER THE INPUT: true; the input reads as it did. -/
def termOrdersSpec : ChangeSpec := { name := "termOrders", fn := fun _ => fun
  | [d1, d2] => { results := [.lit (.bool true)], args := [d1, d2] }
  | _ => none }
def termOrdersRow : OpenClaim := { program := "ytfenikoajadiaaa", sum := "2235c84695dfd8de36626008438312b5123627094b768dd108df0bc0ab6cfb7c", func := "safehouse/safehouselaw05.TermOrders", spec := "termOrders", inPlace := ["internal/bytealg.Compare"], unfollowed := true, recurses := true, loops := true, apart := false }
def TermOrdersSaid : Prop := termOrdersRow.holds Try.pinned (OpenSpec.ofChange termOrdersSpec)

/-- ITS FALSE NEIGHBOUR: 'it returns false'. Refute it at one input. -/
def termOrdersWrong : ChangeSpec := { name := "termOrders", fn := fun _ => fun
  | [d1, d2] => { results := [.lit (.bool false)], args := [d1, d2] }
  | _ => none }
def TermOrdersWrongFalsely : Prop := termOrdersRow.holds Try.pinned (OpenSpec.ofChange termOrdersWrong)

/-- 'safehouselaw05.TermEncodes': WHATEVER THE INPUT: true; the input reads as it did. -/
def termEncodesSpec : ChangeSpec := { name := "termEncodes", fn := fun _ => fun
  | [d] => { results := [.lit (.bool true)], args := [d] }
  | _ => none }
def termEncodesRow : OpenClaim := { program := "ytfenikoajadiaaa", sum := "2235c84695dfd8de36626008438312b5123627094b768dd108df0bc0ab6cfb7c", func := "safehouse/safehouselaw05.TermEncodes", spec := "termEncodes", unfollowed := true, recurses := true, loops := true, apart := false }
def TermEncodesSaid : Prop := termEncodesRow.holds Try.pinned (OpenSpec.ofChange termEncodesSpec)

/-- ITS FALSE NEIGHBOUR: 'it returns false'. Refute it at one input. -/
def termEncodesWrong : ChangeSpec := { name := "termEncodes", fn := fun _ => fun
  | [d] => { results := [.lit (.bool false)], args := [d] }
  | _ => none }
def TermEncodesWrongFalsely : Prop := termEncodesRow.holds Try.pinned (OpenSpec.ofChange termEncodesWrong)

/-- 'safehouselaw05.TermOne': WHATEVER THE INPUT: true; the input reads as it did. -/
def termOneSpec : ChangeSpec := { name := "termOne", fn := fun _ => fun
  | [d1, d2, d3] => { results := [.lit (.bool true)], args := [d1, d2, d3] }
  | _ => none }
def termOneRow : OpenClaim := { program := "ytfenikoajadiaaa", sum := "2235c84695dfd8de36626008438312b5123627094b768dd108df0bc0ab6cfb7c", func := "safehouse/safehouselaw05.TermOne", spec := "termOne", inPlace := ["internal/bytealg.Compare"], unfollowed := true, recurses := true, loops := true, apart := false }
def TermOneSaid : Prop := termOneRow.holds Try.pinned (OpenSpec.ofChange termOneSpec)

/-- ITS FALSE NEIGHBOUR: 'it returns false'. Refute it at one input. -/
def termOneWrong : ChangeSpec := { name := "termOne", fn := fun _ => fun
  | [d1, d2, d3] => { results := [.lit (.bool false)], args := [d1, d2, d3] }
  | _ => none }
def TermOneWrongFalsely : Prop := termOneRow.holds Try.pinned (OpenSpec.ofChange termOneWrong)

/-- 'safehouselaw05.TermLists': WHATEVER THE INPUT: true; the input reads as it did. -/
def termListsSpec : ChangeSpec := { name := "termLists", fn := fun _ => fun
  | [d] => { results := [.lit (.bool true)], args := [d] }
  | _ => none }
def termListsRow : OpenClaim := { program := "ytfenikoajadiaaa", sum := "2235c84695dfd8de36626008438312b5123627094b768dd108df0bc0ab6cfb7c", func := "safehouse/safehouselaw05.TermLists", spec := "termLists", unfollowed := true, recurses := true, loops := true, apart := false }
def TermListsSaid : Prop := termListsRow.holds Try.pinned (OpenSpec.ofChange termListsSpec)

/-- ITS FALSE NEIGHBOUR: 'it returns false'. Refute it at one input. -/
def termListsWrong : ChangeSpec := { name := "termLists", fn := fun _ => fun
  | [d] => { results := [.lit (.bool false)], args := [d] }
  | _ => none }
def TermListsWrongFalsely : Prop := termListsRow.holds Try.pinned (OpenSpec.ofChange termListsWrong)

/-- 'safehouselaw05.TermMakes': WHATEVER THE INPUT: true; the input reads as it did. -/
def termMakesSpec : ChangeSpec := { name := "termMakes", fn := fun _ => fun
  | [d1, d2, d3] => { results := [.lit (.bool true)], args := [d1, d2, d3] }
  | _ => none }
def termMakesRow : OpenClaim := { program := "ytfenikoajadiaaa", sum := "2235c84695dfd8de36626008438312b5123627094b768dd108df0bc0ab6cfb7c", func := "safehouse/safehouselaw05.TermMakes", spec := "termMakes", unfollowed := true, recurses := true, loops := true, apart := false }
def TermMakesSaid : Prop := termMakesRow.holds Try.pinned (OpenSpec.ofChange termMakesSpec)

/-- ITS FALSE NEIGHBOUR: 'it returns false'. Refute it at one input. -/
def termMakesWrong : ChangeSpec := { name := "termMakes", fn := fun _ => fun
  | [d1, d2, d3] => { results := [.lit (.bool false)], args := [d1, d2, d3] }
  | _ => none }
def TermMakesWrongFalsely : Prop := termMakesRow.holds Try.pinned (OpenSpec.ofChange termMakesWrong)

/- THE SECOND FORM. 'bulk': how many values and letters a reading holds, each counted each time it is reached (what is shared counts as often as it is met; a slice's spare places count too). A statement '..UptoSaid' is the law's where the arguments, and the package variables that the reading takes, are together of bulk at most 1048576: NARROWER than '..Said'. Prove '..Said' where nothing that the law and all that it calls make is longer than what came in: it says more and counts as full. Else prove '..UptoSaid'. A law counts once. -/
mutual
def uptoBulk {H : Type} : DataW H → Nat
  | .lit (.string bytes) => bytes.length + 1
  | .lit _ => 1
  | .nil => 1
  | .ptr d => uptoBulk d + 1
  | .slice elems spare => uptoBulkAll elems + uptoBulkAll spare + 1
  | .agg parts => uptoBulkAll parts + 1
  | .iface _ d => uptoBulk d + 1
  | .map entries => uptoBulkEntries entries + 1
  | .held _ => 1
def uptoBulkAll {H : Type} : List (DataW H) → Nat
  | [] => 0
  | d :: r => uptoBulk d + uptoBulkAll r
def uptoBulkEntries {H : Type} : List (Lit × DataW H) → Nat
  | [] => 0
  | x :: r => uptoBulkEntry x + uptoBulkEntries r
def uptoBulkEntry {H : Type} : Lit × DataW H → Nat
  | (.string bytes, d) => bytes.length + uptoBulk d + 1
  | (_, d) => uptoBulk d + 1
 end
def uptoSmall : (H : Type) → List (DataW H) → Bool := fun _ ds => decide (uptoBulkAll ds ≤ 1048576)
def OpenSpec.upto (s : _root_.Go.ChangeSpec) : _root_.Go.OpenSpec := { _root_.Go.OpenSpec.ofChange s with cond := some uptoSmall }

/-- 'safehouselaw05.TermBack', WHERE WHAT IT READS IS OF BULK AT MOST 1048576: true; the input reads as it did. -/
def termBackUptoRow : OpenClaim := { program := "ytfenikoajadiaaa", sum := "2235c84695dfd8de36626008438312b5123627094b768dd108df0bc0ab6cfb7c", func := "safehouse/safehouselaw05.TermBack", spec := "termBack", unfollowed := true, recurses := true, loops := true, apart := false, narrowed := true }
def TermBackUptoSaid : Prop := termBackUptoRow.holds Try.pinned (OpenSpec.upto termBackSpec)

/-- 'safehouselaw05.TermOrders', WHERE WHAT IT READS IS OF BULK AT MOST 1048576: true; the input reads as it did. -/
def termOrdersUptoRow : OpenClaim := { program := "ytfenikoajadiaaa", sum := "2235c84695dfd8de36626008438312b5123627094b768dd108df0bc0ab6cfb7c", func := "safehouse/safehouselaw05.TermOrders", spec := "termOrders", inPlace := ["internal/bytealg.Compare"], unfollowed := true, recurses := true, loops := true, apart := false, narrowed := true }
def TermOrdersUptoSaid : Prop := termOrdersUptoRow.holds Try.pinned (OpenSpec.upto termOrdersSpec)

/-- 'safehouselaw05.TermEncodes', WHERE WHAT IT READS IS OF BULK AT MOST 1048576: true; the input reads as it did. -/
def termEncodesUptoRow : OpenClaim := { program := "ytfenikoajadiaaa", sum := "2235c84695dfd8de36626008438312b5123627094b768dd108df0bc0ab6cfb7c", func := "safehouse/safehouselaw05.TermEncodes", spec := "termEncodes", unfollowed := true, recurses := true, loops := true, apart := false, narrowed := true }
def TermEncodesUptoSaid : Prop := termEncodesUptoRow.holds Try.pinned (OpenSpec.upto termEncodesSpec)

/-- 'safehouselaw05.TermOne', WHERE WHAT IT READS IS OF BULK AT MOST 1048576: true; the input reads as it did. -/
def termOneUptoRow : OpenClaim := { program := "ytfenikoajadiaaa", sum := "2235c84695dfd8de36626008438312b5123627094b768dd108df0bc0ab6cfb7c", func := "safehouse/safehouselaw05.TermOne", spec := "termOne", inPlace := ["internal/bytealg.Compare"], unfollowed := true, recurses := true, loops := true, apart := false, narrowed := true }
def TermOneUptoSaid : Prop := termOneUptoRow.holds Try.pinned (OpenSpec.upto termOneSpec)

/-- 'safehouselaw05.TermLists', WHERE WHAT IT READS IS OF BULK AT MOST 1048576: true; the input reads as it did. -/
def termListsUptoRow : OpenClaim := { program := "ytfenikoajadiaaa", sum := "2235c84695dfd8de36626008438312b5123627094b768dd108df0bc0ab6cfb7c", func := "safehouse/safehouselaw05.TermLists", spec := "termLists", unfollowed := true, recurses := true, loops := true, apart := false, narrowed := true }
def TermListsUptoSaid : Prop := termListsUptoRow.holds Try.pinned (OpenSpec.upto termListsSpec)

/-- 'safehouselaw05.TermMakes', WHERE WHAT IT READS IS OF BULK AT MOST 1048576: true; the input reads as it did. -/
def termMakesUptoRow : OpenClaim := { program := "ytfenikoajadiaaa", sum := "2235c84695dfd8de36626008438312b5123627094b768dd108df0bc0ab6cfb7c", func := "safehouse/safehouselaw05.TermMakes", spec := "termMakes", unfollowed := true, recurses := true, loops := true, apart := false, narrowed := true }
def TermMakesUptoSaid : Prop := termMakesUptoRow.holds Try.pinned (OpenSpec.upto termMakesSpec)

end Rows
end Go.Proofs.Ytfenikoajadiaaa
