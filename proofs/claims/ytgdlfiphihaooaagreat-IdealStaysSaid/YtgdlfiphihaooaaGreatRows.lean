/-
  NARROWER THAN 'FOR EVERY INPUT', by the rows' own cells (each row's printed sentence says how): IdealTaken: loops · IdealLast: loops · IdealStays: loops.
  DERIVED. THE GIVEN ROWS OF THIS SEAT. 3 by the template 'for every input the law returns true; each argument reads behind the call as it read before'; 0 by the template 'total and deterministic' (their statements: YtgdlfiphihaooaaGreatTotals.lean).
  GIVEN WITH THE SEED: the statements are not yours to turn. If you find one false, say at which input.
  Laid BY PROGRAM, IN A SANDBOX (cutbox-rows.mjs): the forced cells as the released guide's own fill.sh prints them over the translation f5c8559322ba361c… (all of the seat's roots in one cut). By AI agents, Wed Nov 11 2026. No macro, syntax, notation, axiom, sorry.
-/
import Derived.Test.YtgdlfiphihaooaaGreatChecked
import GoSem.Claim
import GoSem.ClaimJoined
import GoSem.ClaimMapViews
import Derived.JoinedTies
import Derived.KernelRfl
namespace Go.Proofs.YtgdlfiphihaooaaGreat
/- THE CELL 'sum', in the pinned program and in every row, IS THE sha256 OF THE DUMP (.gsa) THAT YtgdlfiphihaooaaGreatProg.lean LOADS. Nothing in Lean hashes anything: it is a label: what it is worth is what the hold of that sum in a sandbox is worth. -/
noncomputable def Tryz.pinned : Pinned := { name := "ytgdlfiphihaooaagreat", sum := "f5c8559322ba361c2af5818c38639e63b548aaf69c8aaf230e1a2bdc4a926104", checked := Tryz.checked }
namespace Rows
def none {H : Type} : Left H := { results := [], args := [] }

/-- 'safehouselaw18.IdealTaken': WHATEVER THE INPUT: true; the input reads as it did. -/
def idealTakenSpec : ChangeSpec := { name := "idealTaken", fn := fun _ => fun
  | [d1, d2] => { results := [.lit (.bool true)], args := [d1, d2] }
  | _ => none }
def idealTakenRow : OpenClaim := { program := "ytgdlfiphihaooaagreat", sum := "f5c8559322ba361c2af5818c38639e63b548aaf69c8aaf230e1a2bdc4a926104", func := "safehouse/safehouselaw18.IdealTaken", spec := "idealTaken", inPlace := ["internal/bytealg.abigen_runtime_cmpstring", "slices.overlaps[int]", "slices.overlaps[safehouse/api.File]", "slices.overlaps[safehouse/api.Circle]"], unfollowed := true, recurses := true, loops := true, apart := false }
def IdealTakenSaid : Prop := idealTakenRow.holds Tryz.pinned (OpenSpec.ofChange idealTakenSpec)

/-- ITS FALSE NEIGHBOUR: 'it returns false'. Refute it at one input. -/
def idealTakenWrong : ChangeSpec := { name := "idealTaken", fn := fun _ => fun
  | [d1, d2] => { results := [.lit (.bool false)], args := [d1, d2] }
  | _ => none }
def IdealTakenWrongFalsely : Prop := idealTakenRow.holds Tryz.pinned (OpenSpec.ofChange idealTakenWrong)

/-- 'safehouselaw18.IdealLast': WHATEVER THE INPUT: true; the input reads as it did. -/
def idealLastSpec : ChangeSpec := { name := "idealLast", fn := fun _ => fun
  | [d] => { results := [.lit (.bool true)], args := [d] }
  | _ => none }
def idealLastRow : OpenClaim := { program := "ytgdlfiphihaooaagreat", sum := "f5c8559322ba361c2af5818c38639e63b548aaf69c8aaf230e1a2bdc4a926104", func := "safehouse/safehouselaw18.IdealLast", spec := "idealLast", inPlace := ["internal/bytealg.abigen_runtime_cmpstring", "slices.overlaps[int]", "slices.overlaps[safehouse/api.File]", "slices.overlaps[safehouse/api.Circle]"], unfollowed := true, recurses := true, loops := true, apart := false }
def IdealLastSaid : Prop := idealLastRow.holds Tryz.pinned (OpenSpec.ofChange idealLastSpec)

/-- ITS FALSE NEIGHBOUR: 'it returns false'. Refute it at one input. -/
def idealLastWrong : ChangeSpec := { name := "idealLast", fn := fun _ => fun
  | [d] => { results := [.lit (.bool false)], args := [d] }
  | _ => none }
def IdealLastWrongFalsely : Prop := idealLastRow.holds Tryz.pinned (OpenSpec.ofChange idealLastWrong)

/-- 'safehouselaw18.IdealStays': WHATEVER THE INPUT: true; the input reads as it did. -/
def idealStaysSpec : ChangeSpec := { name := "idealStays", fn := fun _ => fun
  | [d1, d2] => { results := [.lit (.bool true)], args := [d1, d2] }
  | _ => none }
def idealStaysRow : OpenClaim := { program := "ytgdlfiphihaooaagreat", sum := "f5c8559322ba361c2af5818c38639e63b548aaf69c8aaf230e1a2bdc4a926104", func := "safehouse/safehouselaw18.IdealStays", spec := "idealStays", inPlace := ["internal/bytealg.abigen_runtime_cmpstring", "slices.overlaps[int]", "slices.overlaps[safehouse/api.File]", "slices.overlaps[safehouse/api.Circle]"], unfollowed := true, recurses := true, loops := true, apart := false }
def IdealStaysSaid : Prop := idealStaysRow.holds Tryz.pinned (OpenSpec.ofChange idealStaysSpec)

/-- ITS FALSE NEIGHBOUR: 'it returns false'. Refute it at one input. -/
def idealStaysWrong : ChangeSpec := { name := "idealStays", fn := fun _ => fun
  | [d1, d2] => { results := [.lit (.bool false)], args := [d1, d2] }
  | _ => none }
def IdealStaysWrongFalsely : Prop := idealStaysRow.holds Tryz.pinned (OpenSpec.ofChange idealStaysWrong)

/- THE SECOND FORM. 'bulk': how many values and letters a reading holds, each counted each time it is reached (what is shared counts as often as it is met; a slice's spare places count too). A statement '..UptoSaid' is the law's where the arguments, and the package variables that the reading takes, are together of bulk at most 1048576: NARROWER than '..Said'. Prove '..Said' where nothing that the law and all that it calls make is longer than what came in: it says more and counts as full. Else prove '..UptoSaid'. A law counts once. -/
mutual
def uptoBulk {H : Type} : DataW H → Nat
  | .lit (.string bytes) => bytes.length + 1
  | .lit _ => 1
  | .nil => 1
  | .ptr d => uptoBulk d + 1
  | .slice elems spare => uptoBulkAll elems + uptoBulkAll spare + 1
  | .agg parts => uptoBulkAll parts + 1
  | .iface _ d => uptoBulk d + 1
  | .map entries => uptoBulkEntries entries + 1
  | .held _ => 1
def uptoBulkAll {H : Type} : List (DataW H) → Nat
  | [] => 0
  | d :: r => uptoBulk d + uptoBulkAll r
def uptoBulkEntries {H : Type} : List (Lit × DataW H) → Nat
  | [] => 0
  | x :: r => uptoBulkEntry x + uptoBulkEntries r
def uptoBulkEntry {H : Type} : Lit × DataW H → Nat
  | (.string bytes, d) => bytes.length + uptoBulk d + 1
  | (_, d) => uptoBulk d + 1
 end
def uptoSmall : (H : Type) → List (DataW H) → Bool := fun _ ds => decide (uptoBulkAll ds ≤ 1048576)
def OpenSpec.upto (s : _root_.Go.ChangeSpec) : _root_.Go.OpenSpec := { _root_.Go.OpenSpec.ofChange s with cond := some uptoSmall }

/-- 'safehouselaw18.IdealTaken', WHERE WHAT IT READS IS OF BULK AT MOST 1048576: true; the input reads as it did. -/
def idealTakenUptoRow : OpenClaim := { program := "ytgdlfiphihaooaagreat", sum := "f5c8559322ba361c2af5818c38639e63b548aaf69c8aaf230e1a2bdc4a926104", func := "safehouse/safehouselaw18.IdealTaken", spec := "idealTaken", inPlace := ["internal/bytealg.abigen_runtime_cmpstring", "slices.overlaps[int]", "slices.overlaps[safehouse/api.File]", "slices.overlaps[safehouse/api.Circle]"], unfollowed := true, recurses := true, loops := true, apart := false, narrowed := true }
def IdealTakenUptoSaid : Prop := idealTakenUptoRow.holds Tryz.pinned (OpenSpec.upto idealTakenSpec)

/-- 'safehouselaw18.IdealLast', WHERE WHAT IT READS IS OF BULK AT MOST 1048576: true; the input reads as it did. -/
def idealLastUptoRow : OpenClaim := { program := "ytgdlfiphihaooaagreat", sum := "f5c8559322ba361c2af5818c38639e63b548aaf69c8aaf230e1a2bdc4a926104", func := "safehouse/safehouselaw18.IdealLast", spec := "idealLast", inPlace := ["internal/bytealg.abigen_runtime_cmpstring", "slices.overlaps[int]", "slices.overlaps[safehouse/api.File]", "slices.overlaps[safehouse/api.Circle]"], unfollowed := true, recurses := true, loops := true, apart := false, narrowed := true }
def IdealLastUptoSaid : Prop := idealLastUptoRow.holds Tryz.pinned (OpenSpec.upto idealLastSpec)

/-- 'safehouselaw18.IdealStays', WHERE WHAT IT READS IS OF BULK AT MOST 1048576: true; the input reads as it did. -/
def idealStaysUptoRow : OpenClaim := { program := "ytgdlfiphihaooaagreat", sum := "f5c8559322ba361c2af5818c38639e63b548aaf69c8aaf230e1a2bdc4a926104", func := "safehouse/safehouselaw18.IdealStays", spec := "idealStays", inPlace := ["internal/bytealg.abigen_runtime_cmpstring", "slices.overlaps[int]", "slices.overlaps[safehouse/api.File]", "slices.overlaps[safehouse/api.Circle]"], unfollowed := true, recurses := true, loops := true, apart := false, narrowed := true }
def IdealStaysUptoSaid : Prop := idealStaysUptoRow.holds Tryz.pinned (OpenSpec.upto idealStaysSpec)

end Rows
end Go.Proofs.YtgdlfiphihaooaaGreat
