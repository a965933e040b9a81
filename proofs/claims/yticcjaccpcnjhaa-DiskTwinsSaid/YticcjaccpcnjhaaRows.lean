/-
  No cell of these rows narrows 'for every input' (looked for: loops, veiled, ifaces, maps, wideKeys, modest, calm, conditions, laid).
  DERIVED. THE GIVEN ROWS OF THIS SEAT. 7 by the template 'for every input the law returns true; each argument reads behind the call as it read before'; 0 by the template 'total and deterministic' (their statements: YticcjaccpcnjhaaTotals.lean).
  GIVEN WITH THE SEED: the statements are not yours to turn. If you find one false, say at which input.
  Laid BY PROGRAM, IN A SANDBOX (cutbox-rows.mjs): the forced cells as the released guide's own fill.sh prints them over the translation fb0732de11451daa… (all of the seat's roots in one cut). By AI agents, Wed Nov 11 2026. No macro, syntax, notation, axiom, sorry.
-/
import Derived.Test.YticcjaccpcnjhaaChecked
import GoSem.Claim
import GoSem.ClaimJoined
import GoSem.ClaimMapViews
import Derived.JoinedTies
import Derived.KernelRfl
namespace Go.Proofs.Yticcjaccpcnjhaa
/- THE CELL 'sum', in the pinned program and in every row, IS THE sha256 OF THE DUMP (.gsa) THAT YticcjaccpcnjhaaProg.lean LOADS. Nothing in Lean hashes anything: it is a label: what it is worth is what the hold of that sum in a sandbox is worth. -/
noncomputable def Try.pinned : Pinned := { name := "yticcjaccpcnjhaa", sum := "fb0732de11451daa54d550a3d93379935aaee06f80b9b5528095ea386e7ed40e", checked := Try.checked }
namespace Rows
def none {H : Type} : Left H := { results := [], args := [] }

/-- 'safehouselaw02.DiskFollows': WHATEVER THE INPUT: true; the input reads as it did. -/
def diskFollowsSpec : ChangeSpec := { name := "diskFollows", fn := fun _ => fun
  | [d1, d2] => { results := [.lit (.bool true)], args := [d1, d2] }
  | _ => none }
def diskFollowsRow : OpenClaim := { program := "yticcjaccpcnjhaa", sum := "fb0732de11451daa54d550a3d93379935aaee06f80b9b5528095ea386e7ed40e", func := "safehouse/safehouselaw02.DiskFollows", spec := "diskFollows", unfollowed := true, recurses := true, apart := false }
def DiskFollowsSaid : Prop := diskFollowsRow.holds Try.pinned (OpenSpec.ofChange diskFollowsSpec)

/-- ITS FALSE NEIGHBOUR: 'it returns false'. Refute it at one input. -/
def diskFollowsWrong : ChangeSpec := { name := "diskFollows", fn := fun _ => fun
  | [d1, d2] => { results := [.lit (.bool false)], args := [d1, d2] }
  | _ => none }
def DiskFollowsWrongFalsely : Prop := diskFollowsRow.holds Try.pinned (OpenSpec.ofChange diskFollowsWrong)

/-- 'safehouselaw02.DiskTwins': WHATEVER THE INPUT: true; the input reads as it did. -/
def diskTwinsSpec : ChangeSpec := { name := "diskTwins", fn := fun _ => fun
  | [d1, d2, d3] => { results := [.lit (.bool true)], args := [d1, d2, d3] }
  | _ => none }
def diskTwinsRow : OpenClaim := { program := "yticcjaccpcnjhaa", sum := "fb0732de11451daa54d550a3d93379935aaee06f80b9b5528095ea386e7ed40e", func := "safehouse/safehouselaw02.DiskTwins", spec := "diskTwins", unfollowed := true, recurses := true, apart := false }
def DiskTwinsSaid : Prop := diskTwinsRow.holds Try.pinned (OpenSpec.ofChange diskTwinsSpec)

/-- ITS FALSE NEIGHBOUR: 'it returns false'. Refute it at one input. -/
def diskTwinsWrong : ChangeSpec := { name := "diskTwins", fn := fun _ => fun
  | [d1, d2, d3] => { results := [.lit (.bool false)], args := [d1, d2, d3] }
  | _ => none }
def DiskTwinsWrongFalsely : Prop := diskTwinsRow.holds Try.pinned (OpenSpec.ofChange diskTwinsWrong)

/-- 'safehouselaw02.DiskAbsent': WHATEVER THE INPUT: true; the input reads as it did. -/
def diskAbsentSpec : ChangeSpec := { name := "diskAbsent", fn := fun _ => fun
  | [d] => { results := [.lit (.bool true)], args := [d] }
  | _ => none }
def diskAbsentRow : OpenClaim := { program := "yticcjaccpcnjhaa", sum := "fb0732de11451daa54d550a3d93379935aaee06f80b9b5528095ea386e7ed40e", func := "safehouse/safehouselaw02.DiskAbsent", spec := "diskAbsent", unfollowed := true, recurses := true, apart := false }
def DiskAbsentSaid : Prop := diskAbsentRow.holds Try.pinned (OpenSpec.ofChange diskAbsentSpec)

/-- ITS FALSE NEIGHBOUR: 'it returns false'. Refute it at one input. -/
def diskAbsentWrong : ChangeSpec := { name := "diskAbsent", fn := fun _ => fun
  | [d] => { results := [.lit (.bool false)], args := [d] }
  | _ => none }
def DiskAbsentWrongFalsely : Prop := diskAbsentRow.holds Try.pinned (OpenSpec.ofChange diskAbsentWrong)

/-- 'safehouselaw02.DiskChooses': WHATEVER THE INPUT: true; the input reads as it did. -/
def diskChoosesSpec : ChangeSpec := { name := "diskChooses", fn := fun _ => fun
  | [d1, d2] => { results := [.lit (.bool true)], args := [d1, d2] }
  | _ => none }
def diskChoosesRow : OpenClaim := { program := "yticcjaccpcnjhaa", sum := "fb0732de11451daa54d550a3d93379935aaee06f80b9b5528095ea386e7ed40e", func := "safehouse/safehouselaw02.DiskChooses", spec := "diskChooses", unfollowed := true, recurses := true, apart := false }
def DiskChoosesSaid : Prop := diskChoosesRow.holds Try.pinned (OpenSpec.ofChange diskChoosesSpec)

/-- ITS FALSE NEIGHBOUR: 'it returns false'. Refute it at one input. -/
def diskChoosesWrong : ChangeSpec := { name := "diskChooses", fn := fun _ => fun
  | [d1, d2] => { results := [.lit (.bool false)], args := [d1, d2] }
  | _ => none }
def DiskChoosesWrongFalsely : Prop := diskChoosesRow.holds Try.pinned (OpenSpec.ofChange diskChoosesWrong)

/-- 'safehouselaw02.DiskSettles': WHATEVER THE INPUT: true; the input reads as it did. -/
def diskSettlesSpec : ChangeSpec := { name := "diskSettles", fn := fun _ => fun
  | [d1, d2] => { results := [.lit (.bool true)], args := [d1, d2] }
  | _ => none }
def diskSettlesRow : OpenClaim := { program := "yticcjaccpcnjhaa", sum := "fb0732de11451daa54d550a3d93379935aaee06f80b9b5528095ea386e7ed40e", func := "safehouse/safehouselaw02.DiskSettles", spec := "diskSettles", unfollowed := true, recurses := true, apart := false }
def DiskSettlesSaid : Prop := diskSettlesRow.holds Try.pinned (OpenSpec.ofChange diskSettlesSpec)

/-- ITS FALSE NEIGHBOUR: 'it returns false'. Refute it at one input. -/
def diskSettlesWrong : ChangeSpec := { name := "diskSettles", fn := fun _ => fun
  | [d1, d2] => { results := [.lit (.bool false)], args := [d1, d2] }
  | _ => none }
def DiskSettlesWrongFalsely : Prop := diskSettlesRow.holds Try.pinned (OpenSpec.ofChange diskSettlesWrong)

/-- 'safehouselaw02.DiskLoses': WHATEVER THE INPUT: true; the input reads as it did. -/
def diskLosesSpec : ChangeSpec := { name := "diskLoses", fn := fun _ => fun
  | [d1, d2] => { results := [.lit (.bool true)], args := [d1, d2] }
  | _ => none }
def diskLosesRow : OpenClaim := { program := "yticcjaccpcnjhaa", sum := "fb0732de11451daa54d550a3d93379935aaee06f80b9b5528095ea386e7ed40e", func := "safehouse/safehouselaw02.DiskLoses", spec := "diskLoses", unfollowed := true, recurses := true, apart := false }
def DiskLosesSaid : Prop := diskLosesRow.holds Try.pinned (OpenSpec.ofChange diskLosesSpec)

/-- ITS FALSE NEIGHBOUR: 'it returns false'. Refute it at one input. -/
def diskLosesWrong : ChangeSpec := { name := "diskLoses", fn := fun _ => fun
  | [d1, d2] => { results := [.lit (.bool false)], args := [d1, d2] }
  | _ => none }
def DiskLosesWrongFalsely : Prop := diskLosesRow.holds Try.pinned (OpenSpec.ofChange diskLosesWrong)

/-- 'safehouselaw02.DiskMisses': WHATEVER THE INPUT: true; the input reads as it did. -/
def diskMissesSpec : ChangeSpec := { name := "diskMisses", fn := fun _ => fun
  | [d1, d2] => { results := [.lit (.bool true)], args := [d1, d2] }
  | _ => none }
def diskMissesRow : OpenClaim := { program := "yticcjaccpcnjhaa", sum := "fb0732de11451daa54d550a3d93379935aaee06f80b9b5528095ea386e7ed40e", func := "safehouse/safehouselaw02.DiskMisses", spec := "diskMisses", unfollowed := true, recurses := true, apart := false }
def DiskMissesSaid : Prop := diskMissesRow.holds Try.pinned (OpenSpec.ofChange diskMissesSpec)

/-- ITS FALSE NEIGHBOUR: 'it returns false'. Refute it at one input. -/
def diskMissesWrong : ChangeSpec := { name := "diskMisses", fn := fun _ => fun
  | [d1, d2] => { results := [.lit (.bool false)], args := [d1, d2] }
  | _ => none }
def DiskMissesWrongFalsely : Prop := diskMissesRow.holds Try.pinned (OpenSpec.ofChange diskMissesWrong)

/- THE SECOND FORM. 'bulk': how many values and letters a reading holds, each counted each time it is reached (what is shared counts as often as it is met; a slice's spare places count too). A statement '..UptoSaid' is the law's where the arguments, and the package variables that the reading takes, are together of bulk at most 1048576: NARROWER than '..Said'. Prove '..Said' where nothing that the law and all that it calls make is longer than what came in: it says more and counts as full. Else prove '..UptoSaid'. A law counts once. -/
mutual
def uptoBulk {H : Type} : DataW H → Nat
  | .lit (.string bytes) => bytes.length + 1
  | .lit _ => 1
  | .nil => 1
  | .ptr d => uptoBulk d + 1
  | .slice elems spare => uptoBulkAll elems + uptoBulkAll spare + 1
  | .agg parts => uptoBulkAll parts + 1
  | .iface _ d => uptoBulk d + 1
  | .map entries => uptoBulkEntries entries + 1
  | .held _ => 1
def uptoBulkAll {H : Type} : List (DataW H) → Nat
  | [] => 0
  | d :: r => uptoBulk d + uptoBulkAll r
def uptoBulkEntries {H : Type} : List (Lit × DataW H) → Nat
  | [] => 0
  | x :: r => uptoBulkEntry x + uptoBulkEntries r
def uptoBulkEntry {H : Type} : Lit × DataW H → Nat
  | (.string bytes, d) => bytes.length + uptoBulk d + 1
  | (_, d) => uptoBulk d + 1
 end
def uptoSmall : (H : Type) → List (DataW H) → Bool := fun _ ds => decide (uptoBulkAll ds ≤ 1048576)
def OpenSpec.upto (s : _root_.Go.ChangeSpec) : _root_.Go.OpenSpec := { _root_.Go.OpenSpec.ofChange s with cond := some uptoSmall }

/-- 'safehouselaw02.DiskFollows', WHERE WHAT IT READS IS OF BULK AT MOST 1048576: true; the input reads as it did. -/
def diskFollowsUptoRow : OpenClaim := { program := "yticcjaccpcnjhaa", sum := "fb0732de11451daa54d550a3d93379935aaee06f80b9b5528095ea386e7ed40e", func := "safehouse/safehouselaw02.DiskFollows", spec := "diskFollows", unfollowed := true, recurses := true, apart := false, narrowed := true }
def DiskFollowsUptoSaid : Prop := diskFollowsUptoRow.holds Try.pinned (OpenSpec.upto diskFollowsSpec)

/-- 'safehouselaw02.DiskTwins', WHERE WHAT IT READS IS OF BULK AT MOST 1048576: true; the input reads as it did. -/
def diskTwinsUptoRow : OpenClaim := { program := "yticcjaccpcnjhaa", sum := "fb0732de11451daa54d550a3d93379935aaee06f80b9b5528095ea386e7ed40e", func := "safehouse/safehouselaw02.DiskTwins", spec := "diskTwins", unfollowed := true, recurses := true, apart := false, narrowed := true }
def DiskTwinsUptoSaid : Prop := diskTwinsUptoRow.holds Try.pinned (OpenSpec.upto diskTwinsSpec)

/-- 'safehouselaw02.DiskAbsent', WHERE WHAT IT READS IS OF BULK AT MOST 1048576: true; the input reads as it did. -/
def diskAbsentUptoRow : OpenClaim := { program := "yticcjaccpcnjhaa", sum := "fb0732de11451daa54d550a3d93379935aaee06f80b9b5528095ea386e7ed40e", func := "safehouse/safehouselaw02.DiskAbsent", spec := "diskAbsent", unfollowed := true, recurses := true, apart := false, narrowed := true }
def DiskAbsentUptoSaid : Prop := diskAbsentUptoRow.holds Try.pinned (OpenSpec.upto diskAbsentSpec)

/-- 'safehouselaw02.DiskChooses', WHERE WHAT IT READS IS OF BULK AT MOST 1048576: true; the input reads as it did. -/
def diskChoosesUptoRow : OpenClaim := { program := "yticcjaccpcnjhaa", sum := "fb0732de11451daa54d550a3d93379935aaee06f80b9b5528095ea386e7ed40e", func := "safehouse/safehouselaw02.DiskChooses", spec := "diskChooses", unfollowed := true, recurses := true, apart := false, narrowed := true }
def DiskChoosesUptoSaid : Prop := diskChoosesUptoRow.holds Try.pinned (OpenSpec.upto diskChoosesSpec)

/-- 'safehouselaw02.DiskSettles', WHERE WHAT IT READS IS OF BULK AT MOST 1048576: true; the input reads as it did. -/
def diskSettlesUptoRow : OpenClaim := { program := "yticcjaccpcnjhaa", sum := "fb0732de11451daa54d550a3d93379935aaee06f80b9b5528095ea386e7ed40e", func := "safehouse/safehouselaw02.DiskSettles", spec := "diskSettles", unfollowed := true, recurses := true, apart := false, narrowed := true }
def DiskSettlesUptoSaid : Prop := diskSettlesUptoRow.holds Try.pinned (OpenSpec.upto diskSettlesSpec)

/-- 'safehouselaw02.DiskLoses', WHERE WHAT IT READS IS OF BULK AT MOST 1048576: true; the input reads as it did. -/
def diskLosesUptoRow : OpenClaim := { program := "yticcjaccpcnjhaa", sum := "fb0732de11451daa54d550a3d93379935aaee06f80b9b5528095ea386e7ed40e", func := "safehouse/safehouselaw02.DiskLoses", spec := "diskLoses", unfollowed := true, recurses := true, apart := false, narrowed := true }
def DiskLosesUptoSaid : Prop := diskLosesUptoRow.holds Try.pinned (OpenSpec.upto diskLosesSpec)

/-- 'safehouselaw02.DiskMisses', WHERE WHAT IT READS IS OF BULK AT MOST 1048576: true; the input reads as it did. -/
def diskMissesUptoRow : OpenClaim := { program := "yticcjaccpcnjhaa", sum := "fb0732de11451daa54d550a3d93379935aaee06f80b9b5528095ea386e7ed40e", func := "safehouse/safehouselaw02.DiskMisses", spec := "diskMisses", unfollowed := true, recurses := true, apart := false, narrowed := true }
def DiskMissesUptoSaid : Prop := diskMissesUptoRow.holds Try.pinned (OpenSpec.upto diskMissesSpec)

end Rows
end Go.Proofs.Yticcjaccpcnjhaa
