/-
  No cell of these rows narrows 'for every input' (looked for: loops, veiled, ifaces, maps, wideKeys, modest, calm, conditions, laid).
  DERIVED. THE GIVEN ROWS OF THIS SEAT. 5 by the template 'for every input the law returns true; each argument reads behind the call as it read before'; 0 by the template 'total and deterministic' (their statements: YtpchiokeckaacaaTotals.lean).
  GIVEN WITH THE SEED: the statements are not yours to turn. If you find one false, say at which input.
  Laid BY PROGRAM, IN A SANDBOX (cutbox-rows.mjs): the forced cells as the released guide's own fill.sh prints them over the translation 502f2f31ede3d330… (all of the seat's roots in one cut). By AI agents, Wed Nov 11 2026. No macro, syntax, notation, axiom, sorry.
-/
import Derived.Test.YtpchiokeckaacaaChecked
import GoSem.Claim
import GoSem.ClaimJoined
import GoSem.ClaimMapViews
import Derived.JoinedTies
import Derived.KernelRfl
namespace Go.Proofs.Ytpchiokeckaacaa
/- THE CELL 'sum', in the pinned program and in every row, IS THE sha256 OF THE DUMP (.gsa) THAT YtpchiokeckaacaaProg.lean LOADS. Nothing in Lean hashes anything: it is a label: what it is worth is what the hold of that sum in a sandbox is worth. -/
noncomputable def Try.pinned : Pinned := { name := "ytpchiokeckaacaa", sum := "502f2f31ede3d3308d76aa53b2d4118908d578f5be9e19f5c575bbf1b637be94", checked := Try.checked }
namespace Rows
def none {H : Type} : Left H := { results := [], args := [] }

/-- 'safehouselaw01.OctetLikens': WHATEVER THE INPUT: true; the input reads as it did. -/
def octetLikensSpec : ChangeSpec := { name := "octetLikens", fn := fun _ => fun
  | [d1, d2] => { results := [.lit (.bool true)], args := [d1, d2] }
  | _ => none }
def octetLikensRow : OpenClaim := { program := "ytpchiokeckaacaa", sum := "502f2f31ede3d3308d76aa53b2d4118908d578f5be9e19f5c575bbf1b637be94", func := "safehouse/safehouselaw01.OctetLikens", spec := "octetLikens", unfollowed := true, recurses := true, apart := false }
def OctetLikensSaid : Prop := octetLikensRow.holds Try.pinned (OpenSpec.ofChange octetLikensSpec)

/-- ITS FALSE NEIGHBOUR: 'it returns false'. Refute it at one input. -/
def octetLikensWrong : ChangeSpec := { name := "octetLikens", fn := fun _ => fun
  | [d1, d2] => { results := [.lit (.bool false)], args := [d1, d2] }
  | _ => none }
def OctetLikensWrongFalsely : Prop := octetLikensRow.holds Try.pinned (OpenSpec.ofChange octetLikensWrong)

/-- 'safehouselaw01.OctetLays': WHATEVER THE INPUT: true; the input reads as it did. -/
def octetLaysSpec : ChangeSpec := { name := "octetLays", fn := fun _ => fun
  | [d1, d2, d3] => { results := [.lit (.bool true)], args := [d1, d2, d3] }
  | _ => none }
def octetLaysRow : OpenClaim := { program := "ytpchiokeckaacaa", sum := "502f2f31ede3d3308d76aa53b2d4118908d578f5be9e19f5c575bbf1b637be94", func := "safehouse/safehouselaw01.OctetLays", spec := "octetLays", unfollowed := true, recurses := true, apart := false }
def OctetLaysSaid : Prop := octetLaysRow.holds Try.pinned (OpenSpec.ofChange octetLaysSpec)

/-- ITS FALSE NEIGHBOUR: 'it returns false'. Refute it at one input. -/
def octetLaysWrong : ChangeSpec := { name := "octetLays", fn := fun _ => fun
  | [d1, d2, d3] => { results := [.lit (.bool false)], args := [d1, d2, d3] }
  | _ => none }
def OctetLaysWrongFalsely : Prop := octetLaysRow.holds Try.pinned (OpenSpec.ofChange octetLaysWrong)

/-- 'safehouselaw01.OctetOrders': WHATEVER THE INPUT: true; the input reads as it did. -/
def octetOrdersSpec : ChangeSpec := { name := "octetOrders", fn := fun _ => fun
  | [d1, d2] => { results := [.lit (.bool true)], args := [d1, d2] }
  | _ => none }
def octetOrdersRow : OpenClaim := { program := "ytpchiokeckaacaa", sum := "502f2f31ede3d3308d76aa53b2d4118908d578f5be9e19f5c575bbf1b637be94", func := "safehouse/safehouselaw01.OctetOrders", spec := "octetOrders", inPlace := ["internal/bytealg.Compare"], unfollowed := true, recurses := true, apart := false }
def OctetOrdersSaid : Prop := octetOrdersRow.holds Try.pinned (OpenSpec.ofChange octetOrdersSpec)

/-- ITS FALSE NEIGHBOUR: 'it returns false'. Refute it at one input. -/
def octetOrdersWrong : ChangeSpec := { name := "octetOrders", fn := fun _ => fun
  | [d1, d2] => { results := [.lit (.bool false)], args := [d1, d2] }
  | _ => none }
def OctetOrdersWrongFalsely : Prop := octetOrdersRow.holds Try.pinned (OpenSpec.ofChange octetOrdersWrong)

/-- 'safehouselaw01.OctetAbsent': WHATEVER THE INPUT: true; the input reads as it did. -/
def octetAbsentSpec : ChangeSpec := { name := "octetAbsent", fn := fun _ => fun
  | [d] => { results := [.lit (.bool true)], args := [d] }
  | _ => none }
def octetAbsentRow : OpenClaim := { program := "ytpchiokeckaacaa", sum := "502f2f31ede3d3308d76aa53b2d4118908d578f5be9e19f5c575bbf1b637be94", func := "safehouse/safehouselaw01.OctetAbsent", spec := "octetAbsent", unfollowed := true, recurses := true, apart := false }
def OctetAbsentSaid : Prop := octetAbsentRow.holds Try.pinned (OpenSpec.ofChange octetAbsentSpec)

/-- ITS FALSE NEIGHBOUR: 'it returns false'. Refute it at one input. -/
def octetAbsentWrong : ChangeSpec := { name := "octetAbsent", fn := fun _ => fun
  | [d] => { results := [.lit (.bool false)], args := [d] }
  | _ => none }
def OctetAbsentWrongFalsely : Prop := octetAbsentRow.holds Try.pinned (OpenSpec.ofChange octetAbsentWrong)

/-- 'safehouselaw01.OctetReturns': WHATEVER THE INPUT: true; the input reads as it did. -/
def octetReturnsSpec : ChangeSpec := { name := "octetReturns", fn := fun _ => fun
  | [d1, d2] => { results := [.lit (.bool true)], args := [d1, d2] }
  | _ => none }
def octetReturnsRow : OpenClaim := { program := "ytpchiokeckaacaa", sum := "502f2f31ede3d3308d76aa53b2d4118908d578f5be9e19f5c575bbf1b637be94", func := "safehouse/safehouselaw01.OctetReturns", spec := "octetReturns", unfollowed := true, recurses := true, apart := false }
def OctetReturnsSaid : Prop := octetReturnsRow.holds Try.pinned (OpenSpec.ofChange octetReturnsSpec)

/-- ITS FALSE NEIGHBOUR: 'it returns false'. Refute it at one input. -/
def octetReturnsWrong : ChangeSpec := { name := "octetReturns", fn := fun _ => fun
  | [d1, d2] => { results := [.lit (.bool false)], args := [d1, d2] }
  | _ => none }
def OctetReturnsWrongFalsely : Prop := octetReturnsRow.holds Try.pinned (OpenSpec.ofChange octetReturnsWrong)

/- THE SECOND FORM. 'bulk': how many values and letters a reading holds, each counted each time it is reached (what is shared counts as often as it is met; a slice's spare places count too). A statement '..UptoSaid' is the law's where the arguments, and the package variables that the reading takes, are together of bulk at most 1048576: NARROWER than '..Said'. Prove '..Said' where nothing that the law and all that it calls make is longer than what came in: it says more and counts as full. Else prove '..UptoSaid'. A law counts once. -/
mutual
def uptoBulk {H : Type} : DataW H → Nat
  | .lit (.string bytes) => bytes.length + 1
  | .lit _ => 1
  | .nil => 1
  | .ptr d => uptoBulk d + 1
  | .slice elems spare => uptoBulkAll elems + uptoBulkAll spare + 1
  | .agg parts => uptoBulkAll parts + 1
  | .iface _ d => uptoBulk d + 1
  | .map entries => uptoBulkEntries entries + 1
  | .held _ => 1
def uptoBulkAll {H : Type} : List (DataW H) → Nat
  | [] => 0
  | d :: r => uptoBulk d + uptoBulkAll r
def uptoBulkEntries {H : Type} : List (Lit × DataW H) → Nat
  | [] => 0
  | x :: r => uptoBulkEntry x + uptoBulkEntries r
def uptoBulkEntry {H : Type} : Lit × DataW H → Nat
  | (.string bytes, d) => bytes.length + uptoBulk d + 1
  | (_, d) => uptoBulk d + 1
 end
def uptoSmall : (H : Type) → List (DataW H) → Bool := fun _ ds => decide (uptoBulkAll ds ≤ 1048576)
def OpenSpec.upto (s : _root_.Go.ChangeSpec) : _root_.Go.OpenSpec := { _root_.Go.OpenSpec.ofChange s with cond := some uptoSmall }

/-- 'safehouselaw01.OctetLikens', WHERE WHAT IT READS IS OF BULK AT MOST 1048576: true; the input reads as it did. -/
def octetLikensUptoRow : OpenClaim := { program := "ytpchiokeckaacaa", sum := "502f2f31ede3d3308d76aa53b2d4118908d578f5be9e19f5c575bbf1b637be94", func := "safehouse/safehouselaw01.OctetLikens", spec := "octetLikens", unfollowed := true, recurses := true, apart := false, narrowed := true }
def OctetLikensUptoSaid : Prop := octetLikensUptoRow.holds Try.pinned (OpenSpec.upto octetLikensSpec)

/-- 'safehouselaw01.OctetLays', WHERE WHAT IT READS IS OF BULK AT MOST 1048576: true; the input reads as it did. -/
def octetLaysUptoRow : OpenClaim := { program := "ytpchiokeckaacaa", sum := "502f2f31ede3d3308d76aa53b2d4118908d578f5be9e19f5c575bbf1b637be94", func := "safehouse/safehouselaw01.OctetLays", spec := "octetLays", unfollowed := true, recurses := true, apart := false, narrowed := true }
def OctetLaysUptoSaid : Prop := octetLaysUptoRow.holds Try.pinned (OpenSpec.upto octetLaysSpec)

/-- 'safehouselaw01.OctetOrders', WHERE WHAT IT READS IS OF BULK AT MOST 1048576: true; the input reads as it did. -/
def octetOrdersUptoRow : OpenClaim := { program := "ytpchiokeckaacaa", sum := "502f2f31ede3d3308d76aa53b2d4118908d578f5be9e19f5c575bbf1b637be94", func := "safehouse/safehouselaw01.OctetOrders", spec := "octetOrders", inPlace := ["internal/bytealg.Compare"], unfollowed := true, recurses := true, apart := false, narrowed := true }
def OctetOrdersUptoSaid : Prop := octetOrdersUptoRow.holds Try.pinned (OpenSpec.upto octetOrdersSpec)

/-- 'safehouselaw01.OctetAbsent', WHERE WHAT IT READS IS OF BULK AT MOST 1048576: true; the input reads as it did. -/
def octetAbsentUptoRow : OpenClaim := { program := "ytpchiokeckaacaa", sum := "502f2f31ede3d3308d76aa53b2d4118908d578f5be9e19f5c575bbf1b637be94", func := "safehouse/safehouselaw01.OctetAbsent", spec := "octetAbsent", unfollowed := true, recurses := true, apart := false, narrowed := true }
def OctetAbsentUptoSaid : Prop := octetAbsentUptoRow.holds Try.pinned (OpenSpec.upto octetAbsentSpec)

/-- 'safehouselaw01.OctetReturns', WHERE WHAT IT READS IS OF BULK AT MOST 1048576: true; the input reads as it did. -/
def octetReturnsUptoRow : OpenClaim := { program := "ytpchiokeckaacaa", sum := "502f2f31ede3d3308d76aa53b2d4118908d578f5be9e19f5c575bbf1b637be94", func := "safehouse/safehouselaw01.OctetReturns", spec := "octetReturns", unfollowed := true, recurses := true, apart := false, narrowed := true }
def OctetReturnsUptoSaid : Prop := octetReturnsUptoRow.holds Try.pinned (OpenSpec.upto octetReturnsSpec)

end Rows
end Go.Proofs.Ytpchiokeckaacaa
