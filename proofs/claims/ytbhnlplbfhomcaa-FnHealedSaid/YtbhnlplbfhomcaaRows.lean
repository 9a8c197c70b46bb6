/-
  No cell of these rows narrows 'for every input' (looked for: loops, veiled, ifaces, maps, wideKeys, modest, calm, conditions, laid).
  DERIVED. THE GIVEN ROWS OF THIS SEAT. 7 by the template 'for every input the law returns true; each argument reads behind the call as it read before'; 0 by the template 'total and deterministic' (their statements: YtbhnlplbfhomcaaTotals.lean).
  GIVEN WITH THE SEED: the statements are not yours to turn. If you find one false, say at which input.
  Laid BY PROGRAM, IN A SANDBOX (cutbox-rows.mjs): the forced cells as the released guide's own fill.sh prints them over the translation 07150c2f43932d68… (all of the seat's roots in one cut). By AI agents, Wed Nov 11 2026. No macro, syntax, notation, axiom, sorry.
-/
import Derived.Test.YtbhnlplbfhomcaaChecked
import GoSem.Claim
import GoSem.ClaimJoined
import GoSem.ClaimMapViews
import Derived.JoinedTies
import Derived.KernelRfl
namespace Go.Proofs.Ytbhnlplbfhomcaa
/- THE CELL 'sum', in the pinned program and in every row, IS THE sha256 OF THE DUMP (.gsa) THAT YtbhnlplbfhomcaaProg.lean LOADS. Nothing in Lean hashes anything: it is a label: what it is worth is what the hold of that sum in a sandbox is worth. -/
noncomputable def Try.pinned : Pinned := { name := "ytbhnlplbfhomcaa", sum := "07150c2f43932d68498989b99a30bed791b8714ffc5de05679062a7d06669859", checked := Try.checked }
namespace Rows
def none {H : Type} : Left H := { results := [], args := [] }

/-- 'laws.FnExactAreChanges': WHATEVER THE INPUT: true; the input reads as it did. -/
def fnExactAreChangesSpec : ChangeSpec := { name := "fnExactAreChanges", fn := fun _ => fun
  | [d] => { results := [.lit (.bool true)], args := [d] }
  | _ => none }
def fnExactAreChangesRow : OpenClaim := { program := "ytbhnlplbfhomcaa", sum := "07150c2f43932d68498989b99a30bed791b8714ffc5de05679062a7d06669859", func := "loop.example/g03223/laws.FnExactAreChanges", spec := "fnExactAreChanges", unfollowed := true, recurses := true, apart := false }
def FnExactAreChangesSaid : Prop := fnExactAreChangesRow.holds Try.pinned (OpenSpec.ofChange fnExactAreChangesSpec)

/-- ITS FALSE NEIGHBOUR: 'it returns false'. Refute it at one input. -/
def fnExactAreChangesWrong : ChangeSpec := { name := "fnExactAreChanges", fn := fun _ => fun
  | [d] => { results := [.lit (.bool false)], args := [d] }
  | _ => none }
def FnExactAreChangesWrongFalsely : Prop := fnExactAreChangesRow.holds Try.pinned (OpenSpec.ofChange fnExactAreChangesWrong)

/-- 'laws.FnDelayed': WHATEVER THE INPUT: true; the input reads as it did. -/
def fnDelayedSpec : ChangeSpec := { name := "fnDelayed", fn := fun _ => fun
  | [d] => { results := [.lit (.bool true)], args := [d] }
  | _ => none }
def fnDelayedRow : OpenClaim := { program := "ytbhnlplbfhomcaa", sum := "07150c2f43932d68498989b99a30bed791b8714ffc5de05679062a7d06669859", func := "loop.example/g03223/laws.FnDelayed", spec := "fnDelayed", inPlace := ["math.Float32bits", "math.Float32frombits"], unfollowed := true, recurses := true, apart := false }
def FnDelayedSaid : Prop := fnDelayedRow.holds Try.pinned (OpenSpec.ofChange fnDelayedSpec)

/-- ITS FALSE NEIGHBOUR: 'it returns false'. Refute it at one input. -/
def fnDelayedWrong : ChangeSpec := { name := "fnDelayed", fn := fun _ => fun
  | [d] => { results := [.lit (.bool false)], args := [d] }
  | _ => none }
def FnDelayedWrongFalsely : Prop := fnDelayedRow.holds Try.pinned (OpenSpec.ofChange fnDelayedWrong)

/-- 'laws.FnTwoOrders': WHATEVER THE INPUT: true; the input reads as it did. -/
def fnTwoOrdersSpec : ChangeSpec := { name := "fnTwoOrders", fn := fun _ => fun
  | [d] => { results := [.lit (.bool true)], args := [d] }
  | _ => none }
def fnTwoOrdersRow : OpenClaim := { program := "ytbhnlplbfhomcaa", sum := "07150c2f43932d68498989b99a30bed791b8714ffc5de05679062a7d06669859", func := "loop.example/g03223/laws.FnTwoOrders", spec := "fnTwoOrders", inPlace := ["math.Float32bits", "math.Float32frombits"], unfollowed := true, recurses := true, apart := false }
def FnTwoOrdersSaid : Prop := fnTwoOrdersRow.holds Try.pinned (OpenSpec.ofChange fnTwoOrdersSpec)

/-- ITS FALSE NEIGHBOUR: 'it returns false'. Refute it at one input. -/
def fnTwoOrdersWrong : ChangeSpec := { name := "fnTwoOrders", fn := fun _ => fun
  | [d] => { results := [.lit (.bool false)], args := [d] }
  | _ => none }
def FnTwoOrdersWrongFalsely : Prop := fnTwoOrdersRow.holds Try.pinned (OpenSpec.ofChange fnTwoOrdersWrong)

/-- 'laws.FnSuperposed': WHATEVER THE INPUT: true; the input reads as it did. -/
def fnSuperposedSpec : ChangeSpec := { name := "fnSuperposed", fn := fun _ => fun
  | [d] => { results := [.lit (.bool true)], args := [d] }
  | _ => none }
def fnSuperposedRow : OpenClaim := { program := "ytbhnlplbfhomcaa", sum := "07150c2f43932d68498989b99a30bed791b8714ffc5de05679062a7d06669859", func := "loop.example/g03223/laws.FnSuperposed", spec := "fnSuperposed", inPlace := ["math.Float32bits", "math.Float32frombits"], unfollowed := true, recurses := true, apart := false }
def FnSuperposedSaid : Prop := fnSuperposedRow.holds Try.pinned (OpenSpec.ofChange fnSuperposedSpec)

/-- ITS FALSE NEIGHBOUR: 'it returns false'. Refute it at one input. -/
def fnSuperposedWrong : ChangeSpec := { name := "fnSuperposed", fn := fun _ => fun
  | [d] => { results := [.lit (.bool false)], args := [d] }
  | _ => none }
def FnSuperposedWrongFalsely : Prop := fnSuperposedRow.holds Try.pinned (OpenSpec.ofChange fnSuperposedWrong)

/-- 'laws.FnHealed': WHATEVER THE INPUT: true; the input reads as it did. -/
def fnHealedSpec : ChangeSpec := { name := "fnHealed", fn := fun _ => fun
  | [d] => { results := [.lit (.bool true)], args := [d] }
  | _ => none }
def fnHealedRow : OpenClaim := { program := "ytbhnlplbfhomcaa", sum := "07150c2f43932d68498989b99a30bed791b8714ffc5de05679062a7d06669859", func := "loop.example/g03223/laws.FnHealed", spec := "fnHealed", inPlace := ["math.Float32bits", "math.Float32frombits"], unfollowed := true, recurses := true, apart := false }
def FnHealedSaid : Prop := fnHealedRow.holds Try.pinned (OpenSpec.ofChange fnHealedSpec)

/-- ITS FALSE NEIGHBOUR: 'it returns false'. Refute it at one input. -/
def fnHealedWrong : ChangeSpec := { name := "fnHealed", fn := fun _ => fun
  | [d] => { results := [.lit (.bool false)], args := [d] }
  | _ => none }
def FnHealedWrongFalsely : Prop := fnHealedRow.holds Try.pinned (OpenSpec.ofChange fnHealedWrong)

/-- 'laws.FnAdded': WHATEVER THE INPUT: true; the input reads as it did. -/
def fnAddedSpec : ChangeSpec := { name := "fnAdded", fn := fun _ => fun
  | [d] => { results := [.lit (.bool true)], args := [d] }
  | _ => none }
def fnAddedRow : OpenClaim := { program := "ytbhnlplbfhomcaa", sum := "07150c2f43932d68498989b99a30bed791b8714ffc5de05679062a7d06669859", func := "loop.example/g03223/laws.FnAdded", spec := "fnAdded", inPlace := ["math.Float32bits", "math.Float32frombits"], unfollowed := true, recurses := true, apart := false }
def FnAddedSaid : Prop := fnAddedRow.holds Try.pinned (OpenSpec.ofChange fnAddedSpec)

/-- ITS FALSE NEIGHBOUR: 'it returns false'. Refute it at one input. -/
def fnAddedWrong : ChangeSpec := { name := "fnAdded", fn := fun _ => fun
  | [d] => { results := [.lit (.bool false)], args := [d] }
  | _ => none }
def FnAddedWrongFalsely : Prop := fnAddedRow.holds Try.pinned (OpenSpec.ofChange fnAddedWrong)

/-- 'laws.FnHeld': WHATEVER THE INPUT: true; the input reads as it did. -/
def fnHeldSpec : ChangeSpec := { name := "fnHeld", fn := fun _ => fun
  | [d] => { results := [.lit (.bool true)], args := [d] }
  | _ => none }
def fnHeldRow : OpenClaim := { program := "ytbhnlplbfhomcaa", sum := "07150c2f43932d68498989b99a30bed791b8714ffc5de05679062a7d06669859", func := "loop.example/g03223/laws.FnHeld", spec := "fnHeld", inPlace := ["math.Float32bits", "math.Float32frombits"], unfollowed := true, recurses := true, apart := false }
def FnHeldSaid : Prop := fnHeldRow.holds Try.pinned (OpenSpec.ofChange fnHeldSpec)

/-- ITS FALSE NEIGHBOUR: 'it returns false'. Refute it at one input. -/
def fnHeldWrong : ChangeSpec := { name := "fnHeld", fn := fun _ => fun
  | [d] => { results := [.lit (.bool false)], args := [d] }
  | _ => none }
def FnHeldWrongFalsely : Prop := fnHeldRow.holds Try.pinned (OpenSpec.ofChange fnHeldWrong)

/- THE SECOND FORM. 'bulk': how many values and letters a reading holds, each counted each time it is reached (what is shared counts as often as it is met; a slice's spare places count too). A statement '..UptoSaid' is the law's where the arguments, and the package variables that the reading takes, are together of bulk at most 1048576: NARROWER than '..Said'. Prove '..Said' where nothing that the law and all that it calls make is longer than what came in: it says more and counts as full. Else prove '..UptoSaid'. A law counts once. -/
mutual
def uptoBulk {H : Type} : DataW H → Nat
  | .lit (.string bytes) => bytes.length + 1
  | .lit _ => 1
  | .nil => 1
  | .ptr d => uptoBulk d + 1
  | .slice elems spare => uptoBulkAll elems + uptoBulkAll spare + 1
  | .agg parts => uptoBulkAll parts + 1
  | .iface _ d => uptoBulk d + 1
  | .map entries => uptoBulkEntries entries + 1
  | .held _ => 1
def uptoBulkAll {H : Type} : List (DataW H) → Nat
  | [] => 0
  | d :: r => uptoBulk d + uptoBulkAll r
def uptoBulkEntries {H : Type} : List (Lit × DataW H) → Nat
  | [] => 0
  | x :: r => uptoBulkEntry x + uptoBulkEntries r
def uptoBulkEntry {H : Type} : Lit × DataW H → Nat
  | (.string bytes, d) => bytes.length + uptoBulk d + 1
  | (_, d) => uptoBulk d + 1
 end
def uptoSmall : (H : Type) → List (DataW H) → Bool := fun _ ds => decide (uptoBulkAll ds ≤ 1048576)
def OpenSpec.upto (s : _root_.Go.ChangeSpec) : _root_.Go.OpenSpec := { _root_.Go.OpenSpec.ofChange s with cond := some uptoSmall }

/-- 'laws.FnExactAreChanges', WHERE WHAT IT READS IS OF BULK AT MOST 1048576: true; the input reads as it did. -/
def fnExactAreChangesUptoRow : OpenClaim := { program := "ytbhnlplbfhomcaa", sum := "07150c2f43932d68498989b99a30bed791b8714ffc5de05679062a7d06669859", func := "loop.example/g03223/laws.FnExactAreChanges", spec := "fnExactAreChanges", unfollowed := true, recurses := true, apart := false, narrowed := true }
def FnExactAreChangesUptoSaid : Prop := fnExactAreChangesUptoRow.holds Try.pinned (OpenSpec.upto fnExactAreChangesSpec)

/-- 'laws.FnDelayed', WHERE WHAT IT READS IS OF BULK AT MOST 1048576: true; the input reads as it did. -/
def fnDelayedUptoRow : OpenClaim := { program := "ytbhnlplbfhomcaa", sum := "07150c2f43932d68498989b99a30bed791b8714ffc5de05679062a7d06669859", func := "loop.example/g03223/laws.FnDelayed", spec := "fnDelayed", inPlace := ["math.Float32bits", "math.Float32frombits"], unfollowed := true, recurses := true, apart := false, narrowed := true }
def FnDelayedUptoSaid : Prop := fnDelayedUptoRow.holds Try.pinned (OpenSpec.upto fnDelayedSpec)

/-- 'laws.FnTwoOrders', WHERE WHAT IT READS IS OF BULK AT MOST 1048576: true; the input reads as it did. -/
def fnTwoOrdersUptoRow : OpenClaim := { program := "ytbhnlplbfhomcaa", sum := "07150c2f43932d68498989b99a30bed791b8714ffc5de05679062a7d06669859", func := "loop.example/g03223/laws.FnTwoOrders", spec := "fnTwoOrders", inPlace := ["math.Float32bits", "math.Float32frombits"], unfollowed := true, recurses := true, apart := false, narrowed := true }
def FnTwoOrdersUptoSaid : Prop := fnTwoOrdersUptoRow.holds Try.pinned (OpenSpec.upto fnTwoOrdersSpec)

/-- 'laws.FnSuperposed', WHERE WHAT IT READS IS OF BULK AT MOST 1048576: true; the input reads as it did. -/
def fnSuperposedUptoRow : OpenClaim := { program := "ytbhnlplbfhomcaa", sum := "07150c2f43932d68498989b99a30bed791b8714ffc5de05679062a7d06669859", func := "loop.example/g03223/laws.FnSuperposed", spec := "fnSuperposed", inPlace := ["math.Float32bits", "math.Float32frombits"], unfollowed := true, recurses := true, apart := false, narrowed := true }
def FnSuperposedUptoSaid : Prop := fnSuperposedUptoRow.holds Try.pinned (OpenSpec.upto fnSuperposedSpec)

/-- 'laws.FnHealed', WHERE WHAT IT READS IS OF BULK AT MOST 1048576: true; the input reads as it did. -/
def fnHealedUptoRow : OpenClaim := { program := "ytbhnlplbfhomcaa", sum := "07150c2f43932d68498989b99a30bed791b8714ffc5de05679062a7d06669859", func := "loop.example/g03223/laws.FnHealed", spec := "fnHealed", inPlace := ["math.Float32bits", "math.Float32frombits"], unfollowed := true, recurses := true, apart := false, narrowed := true }
def FnHealedUptoSaid : Prop := fnHealedUptoRow.holds Try.pinned (OpenSpec.upto fnHealedSpec)

/-- 'laws.FnAdded', WHERE WHAT IT READS IS OF BULK AT MOST 1048576: true; the input reads as it did. -/
def fnAddedUptoRow : OpenClaim := { program := "ytbhnlplbfhomcaa", sum := "07150c2f43932d68498989b99a30bed791b8714ffc5de05679062a7d06669859", func := "loop.example/g03223/laws.FnAdded", spec := "fnAdded", inPlace := ["math.Float32bits", "math.Float32frombits"], unfollowed := true, recurses := true, apart := false, narrowed := true }
def FnAddedUptoSaid : Prop := fnAddedUptoRow.holds Try.pinned (OpenSpec.upto fnAddedSpec)

/-- 'laws.FnHeld', WHERE WHAT IT READS IS OF BULK AT MOST 1048576: true; the input reads as it did. -/
def fnHeldUptoRow : OpenClaim := { program := "ytbhnlplbfhomcaa", sum := "07150c2f43932d68498989b99a30bed791b8714ffc5de05679062a7d06669859", func := "loop.example/g03223/laws.FnHeld", spec := "fnHeld", inPlace := ["math.Float32bits", "math.Float32frombits"], unfollowed := true, recurses := true, apart := false, narrowed := true }
def FnHeldUptoSaid : Prop := fnHeldUptoRow.holds Try.pinned (OpenSpec.upto fnHeldSpec)

end Rows
end Go.Proofs.Ytbhnlplbfhomcaa
