/-
  No cell of these rows narrows 'for every input' (looked for: loops, veiled, ifaces, maps, wideKeys, modest, calm, conditions, laid).
  DERIVED. THE GIVEN ROWS OF THIS SEAT. 7 by the template 'for every input the law returns true; each argument reads behind the call as it read before'; 0 by the template 'total and deterministic' (their statements: YtikfhfgdmlijeaaTotals.lean).
  GIVEN WITH THE SEED: the statements are not yours to turn. If you find one false, say at which input.
  Laid BY PROGRAM, IN A SANDBOX (cutbox-rows.mjs): the forced cells as the released guide's own fill.sh prints them over the translation df88ed5d2ddb8262… (all of the seat's roots in one cut). By AI agents, Wed Nov 11 2026. No macro, syntax, notation, axiom, sorry.
-/
import Derived.Test.YtikfhfgdmlijeaaChecked
import GoSem.Claim
import GoSem.ClaimJoined
import GoSem.ClaimMapViews
import Derived.JoinedTies
import Derived.KernelRfl
namespace Go.Proofs.Ytikfhfgdmlijeaa
/- THE CELL 'sum', in the pinned program and in every row, IS THE sha256 OF THE DUMP (.gsa) THAT YtikfhfgdmlijeaaProg.lean LOADS. Nothing in Lean hashes anything: it is a label: what it is worth is what the hold of that sum in a sandbox is worth. -/
noncomputable def Try.pinned : Pinned := { name := "ytikfhfgdmlijeaa", sum := "df88ed5d2ddb8262a6485d5ae38a880ef754a847ad15318fc89e5c45e2bc03f9", checked := Try.checked }
namespace Rows
def none {H : Type} : Left H := { results := [], args := [] }

/-- 'pennyfalllaw01.WheelMachines': WHATEVER THE INPUT: true; the input reads as it did. -/
def wheelMachinesSpec : ChangeSpec := { name := "wheelMachines", fn := fun _ => fun
  | [d] => { results := [.lit (.bool true)], args := [d] }
  | _ => none }
def wheelMachinesRow : OpenClaim := { program := "ytikfhfgdmlijeaa", sum := "df88ed5d2ddb8262a6485d5ae38a880ef754a847ad15318fc89e5c45e2bc03f9", func := "pennyfall/pennyfalllaw01.WheelMachines", spec := "wheelMachines", unfollowed := true, recurses := true, plainKeys := false, apart := false }
def WheelMachinesSaid : Prop := wheelMachinesRow.holds Try.pinned (OpenSpec.ofChange wheelMachinesSpec)

/-- ITS FALSE NEIGHBOUR: 'it returns false'. Refute it at one input. -/
def wheelMachinesWrong : ChangeSpec := { name := "wheelMachines", fn := fun _ => fun
  | [d] => { results := [.lit (.bool false)], args := [d] }
  | _ => none }
def WheelMachinesWrongFalsely : Prop := wheelMachinesRow.holds Try.pinned (OpenSpec.ofChange wheelMachinesWrong)

/-- 'pennyfalllaw01.WheelProofs': WHATEVER THE INPUT: true; the input reads as it did. -/
def wheelProofsSpec : ChangeSpec := { name := "wheelProofs", fn := fun _ => fun
  | [d1, d2] => { results := [.lit (.bool true)], args := [d1, d2] }
  | _ => none }
def wheelProofsRow : OpenClaim := { program := "ytikfhfgdmlijeaa", sum := "df88ed5d2ddb8262a6485d5ae38a880ef754a847ad15318fc89e5c45e2bc03f9", func := "pennyfall/pennyfalllaw01.WheelProofs", spec := "wheelProofs", unfollowed := true, recurses := true, plainKeys := false, apart := false }
def WheelProofsSaid : Prop := wheelProofsRow.holds Try.pinned (OpenSpec.ofChange wheelProofsSpec)

/-- ITS FALSE NEIGHBOUR: 'it returns false'. Refute it at one input. -/
def wheelProofsWrong : ChangeSpec := { name := "wheelProofs", fn := fun _ => fun
  | [d1, d2] => { results := [.lit (.bool false)], args := [d1, d2] }
  | _ => none }
def WheelProofsWrongFalsely : Prop := wheelProofsRow.holds Try.pinned (OpenSpec.ofChange wheelProofsWrong)

/-- 'pennyfalllaw01.WheelEither': WHATEVER THE INPUT: true; the input reads as it did. -/
def wheelEitherSpec : ChangeSpec := { name := "wheelEither", fn := fun _ => fun
  | [d] => { results := [.lit (.bool true)], args := [d] }
  | _ => none }
def wheelEitherRow : OpenClaim := { program := "ytikfhfgdmlijeaa", sum := "df88ed5d2ddb8262a6485d5ae38a880ef754a847ad15318fc89e5c45e2bc03f9", func := "pennyfall/pennyfalllaw01.WheelEither", spec := "wheelEither", unfollowed := true, recurses := true, plainKeys := false, apart := false }
def WheelEitherSaid : Prop := wheelEitherRow.holds Try.pinned (OpenSpec.ofChange wheelEitherSpec)

/-- ITS FALSE NEIGHBOUR: 'it returns false'. Refute it at one input. -/
def wheelEitherWrong : ChangeSpec := { name := "wheelEither", fn := fun _ => fun
  | [d] => { results := [.lit (.bool false)], args := [d] }
  | _ => none }
def WheelEitherWrongFalsely : Prop := wheelEitherRow.holds Try.pinned (OpenSpec.ofChange wheelEitherWrong)

/-- 'pennyfalllaw01.WheelEnds': WHATEVER THE INPUT: true; the input reads as it did. -/
def wheelEndsSpec : ChangeSpec := { name := "wheelEnds", fn := fun _ => fun
  | [d1, d2] => { results := [.lit (.bool true)], args := [d1, d2] }
  | _ => none }
def wheelEndsRow : OpenClaim := { program := "ytikfhfgdmlijeaa", sum := "df88ed5d2ddb8262a6485d5ae38a880ef754a847ad15318fc89e5c45e2bc03f9", func := "pennyfall/pennyfalllaw01.WheelEnds", spec := "wheelEnds", unfollowed := true, recurses := true, plainKeys := false, apart := false }
def WheelEndsSaid : Prop := wheelEndsRow.holds Try.pinned (OpenSpec.ofChange wheelEndsSpec)

/-- ITS FALSE NEIGHBOUR: 'it returns false'. Refute it at one input. -/
def wheelEndsWrong : ChangeSpec := { name := "wheelEnds", fn := fun _ => fun
  | [d1, d2] => { results := [.lit (.bool false)], args := [d1, d2] }
  | _ => none }
def WheelEndsWrongFalsely : Prop := wheelEndsRow.holds Try.pinned (OpenSpec.ofChange wheelEndsWrong)

/-- 'pennyfalllaw01.WheelBetween': WHATEVER THE INPUT: true; the input reads as it did. -/
def wheelBetweenSpec : ChangeSpec := { name := "wheelBetween", fn := fun _ => fun
  | [d1, d2, d3, d4] => { results := [.lit (.bool true)], args := [d1, d2, d3, d4] }
  | _ => none }
def wheelBetweenRow : OpenClaim := { program := "ytikfhfgdmlijeaa", sum := "df88ed5d2ddb8262a6485d5ae38a880ef754a847ad15318fc89e5c45e2bc03f9", func := "pennyfall/pennyfalllaw01.WheelBetween", spec := "wheelBetween", unfollowed := true, recurses := true, plainKeys := false, apart := false }
def WheelBetweenSaid : Prop := wheelBetweenRow.holds Try.pinned (OpenSpec.ofChange wheelBetweenSpec)

/-- ITS FALSE NEIGHBOUR: 'it returns false'. Refute it at one input. -/
def wheelBetweenWrong : ChangeSpec := { name := "wheelBetween", fn := fun _ => fun
  | [d1, d2, d3, d4] => { results := [.lit (.bool false)], args := [d1, d2, d3, d4] }
  | _ => none }
def WheelBetweenWrongFalsely : Prop := wheelBetweenRow.holds Try.pinned (OpenSpec.ofChange wheelBetweenWrong)

/-- 'pennyfalllaw01.WheelPeriod': WHATEVER THE INPUT: true; the input reads as it did. -/
def wheelPeriodSpec : ChangeSpec := { name := "wheelPeriod", fn := fun _ => fun
  | [d1, d2] => { results := [.lit (.bool true)], args := [d1, d2] }
  | _ => none }
def wheelPeriodRow : OpenClaim := { program := "ytikfhfgdmlijeaa", sum := "df88ed5d2ddb8262a6485d5ae38a880ef754a847ad15318fc89e5c45e2bc03f9", func := "pennyfall/pennyfalllaw01.WheelPeriod", spec := "wheelPeriod", unfollowed := true, recurses := true, plainKeys := false, apart := false }
def WheelPeriodSaid : Prop := wheelPeriodRow.holds Try.pinned (OpenSpec.ofChange wheelPeriodSpec)

/-- ITS FALSE NEIGHBOUR: 'it returns false'. Refute it at one input. -/
def wheelPeriodWrong : ChangeSpec := { name := "wheelPeriod", fn := fun _ => fun
  | [d1, d2] => { results := [.lit (.bool false)], args := [d1, d2] }
  | _ => none }
def WheelPeriodWrongFalsely : Prop := wheelPeriodRow.holds Try.pinned (OpenSpec.ofChange wheelPeriodWrong)

/-- 'pennyfalllaw01.WheelKnown': WHATEVER THE INPUT: true; the input reads as it did. -/
def wheelKnownSpec : ChangeSpec := { name := "wheelKnown", fn := fun _ => fun
  | [] => { results := [.lit (.bool true)], args := [] }
  | _ => none }
def wheelKnownRow : OpenClaim := { program := "ytikfhfgdmlijeaa", sum := "df88ed5d2ddb8262a6485d5ae38a880ef754a847ad15318fc89e5c45e2bc03f9", func := "pennyfall/pennyfalllaw01.WheelKnown", spec := "wheelKnown", unfollowed := true, recurses := true, plainKeys := false, apart := false }
def WheelKnownSaid : Prop := wheelKnownRow.holds Try.pinned (OpenSpec.ofChange wheelKnownSpec)

/-- ITS FALSE NEIGHBOUR: 'it returns false'. Refute it at one input. -/
def wheelKnownWrong : ChangeSpec := { name := "wheelKnown", fn := fun _ => fun
  | [] => { results := [.lit (.bool false)], args := [] }
  | _ => none }
def WheelKnownWrongFalsely : Prop := wheelKnownRow.holds Try.pinned (OpenSpec.ofChange wheelKnownWrong)

/- THE SECOND FORM. 'bulk': how many values and letters a reading holds, each counted each time it is reached (what is shared counts as often as it is met; a slice's spare places count too). A statement '..UptoSaid' is the law's where the arguments, and the package variables that the reading takes, are together of bulk at most 1048576: NARROWER than '..Said'. Prove '..Said' where nothing that the law and all that it calls make is longer than what came in: it says more and counts as full. Else prove '..UptoSaid'. A law counts once. -/
mutual
def uptoBulk {H : Type} : DataW H → Nat
  | .lit (.string bytes) => bytes.length + 1
  | .lit _ => 1
  | .nil => 1
  | .ptr d => uptoBulk d + 1
  | .slice elems spare => uptoBulkAll elems + uptoBulkAll spare + 1
  | .agg parts => uptoBulkAll parts + 1
  | .iface _ d => uptoBulk d + 1
  | .map entries => uptoBulkEntries entries + 1
  | .held _ => 1
def uptoBulkAll {H : Type} : List (DataW H) → Nat
  | [] => 0
  | d :: r => uptoBulk d + uptoBulkAll r
def uptoBulkEntries {H : Type} : List (Lit × DataW H) → Nat
  | [] => 0
  | x :: r => uptoBulkEntry x + uptoBulkEntries r
def uptoBulkEntry {H : Type} : Lit × DataW H → Nat
  | (.string bytes, d) => bytes.length + uptoBulk d + 1
  | (_, d) => uptoBulk d + 1
 end
def uptoSmall : (H : Type) → List (DataW H) → Bool := fun _ ds => decide (uptoBulkAll ds ≤ 1048576)
def OpenSpec.upto (s : _root_.Go.ChangeSpec) : _root_.Go.OpenSpec := { _root_.Go.OpenSpec.ofChange s with cond := some uptoSmall }

/-- 'pennyfalllaw01.WheelMachines', WHERE WHAT IT READS IS OF BULK AT MOST 1048576: true; the input reads as it did. -/
def wheelMachinesUptoRow : OpenClaim := { program := "ytikfhfgdmlijeaa", sum := "df88ed5d2ddb8262a6485d5ae38a880ef754a847ad15318fc89e5c45e2bc03f9", func := "pennyfall/pennyfalllaw01.WheelMachines", spec := "wheelMachines", unfollowed := true, recurses := true, plainKeys := false, apart := false, narrowed := true }
def WheelMachinesUptoSaid : Prop := wheelMachinesUptoRow.holds Try.pinned (OpenSpec.upto wheelMachinesSpec)

/-- 'pennyfalllaw01.WheelProofs', WHERE WHAT IT READS IS OF BULK AT MOST 1048576: true; the input reads as it did. -/
def wheelProofsUptoRow : OpenClaim := { program := "ytikfhfgdmlijeaa", sum := "df88ed5d2ddb8262a6485d5ae38a880ef754a847ad15318fc89e5c45e2bc03f9", func := "pennyfall/pennyfalllaw01.WheelProofs", spec := "wheelProofs", unfollowed := true, recurses := true, plainKeys := false, apart := false, narrowed := true }
def WheelProofsUptoSaid : Prop := wheelProofsUptoRow.holds Try.pinned (OpenSpec.upto wheelProofsSpec)

/-- 'pennyfalllaw01.WheelEither', WHERE WHAT IT READS IS OF BULK AT MOST 1048576: true; the input reads as it did. -/
def wheelEitherUptoRow : OpenClaim := { program := "ytikfhfgdmlijeaa", sum := "df88ed5d2ddb8262a6485d5ae38a880ef754a847ad15318fc89e5c45e2bc03f9", func := "pennyfall/pennyfalllaw01.WheelEither", spec := "wheelEither", unfollowed := true, recurses := true, plainKeys := false, apart := false, narrowed := true }
def WheelEitherUptoSaid : Prop := wheelEitherUptoRow.holds Try.pinned (OpenSpec.upto wheelEitherSpec)

/-- 'pennyfalllaw01.WheelEnds', WHERE WHAT IT READS IS OF BULK AT MOST 1048576: true; the input reads as it did. -/
def wheelEndsUptoRow : OpenClaim := { program := "ytikfhfgdmlijeaa", sum := "df88ed5d2ddb8262a6485d5ae38a880ef754a847ad15318fc89e5c45e2bc03f9", func := "pennyfall/pennyfalllaw01.WheelEnds", spec := "wheelEnds", unfollowed := true, recurses := true, plainKeys := false, apart := false, narrowed := true }
def WheelEndsUptoSaid : Prop := wheelEndsUptoRow.holds Try.pinned (OpenSpec.upto wheelEndsSpec)

/-- 'pennyfalllaw01.WheelBetween', WHERE WHAT IT READS IS OF BULK AT MOST 1048576: true; the input reads as it did. -/
def wheelBetweenUptoRow : OpenClaim := { program := "ytikfhfgdmlijeaa", sum := "df88ed5d2ddb8262a6485d5ae38a880ef754a847ad15318fc89e5c45e2bc03f9", func := "pennyfall/pennyfalllaw01.WheelBetween", spec := "wheelBetween", unfollowed := true, recurses := true, plainKeys := false, apart := false, narrowed := true }
def WheelBetweenUptoSaid : Prop := wheelBetweenUptoRow.holds Try.pinned (OpenSpec.upto wheelBetweenSpec)

/-- 'pennyfalllaw01.WheelPeriod', WHERE WHAT IT READS IS OF BULK AT MOST 1048576: true; the input reads as it did. -/
def wheelPeriodUptoRow : OpenClaim := { program := "ytikfhfgdmlijeaa", sum := "df88ed5d2ddb8262a6485d5ae38a880ef754a847ad15318fc89e5c45e2bc03f9", func := "pennyfall/pennyfalllaw01.WheelPeriod", spec := "wheelPeriod", unfollowed := true, recurses := true, plainKeys := false, apart := false, narrowed := true }
def WheelPeriodUptoSaid : Prop := wheelPeriodUptoRow.holds Try.pinned (OpenSpec.upto wheelPeriodSpec)

/-- 'pennyfalllaw01.WheelKnown', WHERE WHAT IT READS IS OF BULK AT MOST 1048576: true; the input reads as it did. -/
def wheelKnownUptoRow : OpenClaim := { program := "ytikfhfgdmlijeaa", sum := "df88ed5d2ddb8262a6485d5ae38a880ef754a847ad15318fc89e5c45e2bc03f9", func := "pennyfall/pennyfalllaw01.WheelKnown", spec := "wheelKnown", unfollowed := true, recurses := true, plainKeys := false, apart := false, narrowed := true }
def WheelKnownUptoSaid : Prop := wheelKnownUptoRow.holds Try.pinned (OpenSpec.upto wheelKnownSpec)

end Rows
end Go.Proofs.Ytikfhfgdmlijeaa
