/-
  No cell of these rows narrows 'for every input' (looked for: loops, veiled, ifaces, maps, wideKeys, modest, calm, conditions, laid).
  DERIVED. THE GIVEN ROWS OF THIS SEAT. 8 by the template 'for every input the law returns true; each argument reads behind the call as it read before'; 0 by the template 'total and deterministic' (their statements: YtikfhfgdmlijeaaGreatTotals.lean).
  GIVEN WITH THE SEED: the statements are not yours to turn. If you find one false, say at which input.
  Laid BY PROGRAM, IN A SANDBOX (cutbox-rows.mjs): the forced cells as the released guide's own fill.sh prints them over the translation ae23913bc2212384… (all of the seat's roots in one cut). By AI agents, Wed Nov 11 2026. No macro, syntax, notation, axiom, sorry.
-/
import Derived.Test.YtikfhfgdmlijeaaGreatChecked
import GoSem.Claim
import GoSem.ClaimJoined
import GoSem.ClaimMapViews
import Derived.JoinedTies
import Derived.KernelRfl
namespace Go.Proofs.YtikfhfgdmlijeaaGreat
/- THE CELL 'sum', in the pinned program and in every row, IS THE sha256 OF THE DUMP (.gsa) THAT YtikfhfgdmlijeaaGreatProg.lean LOADS. Nothing in Lean hashes anything: it is a label: what it is worth is what the hold of that sum in a sandbox is worth. -/
noncomputable def Tryz.pinned : Pinned := { name := "ytikfhfgdmlijeaagreat", sum := "ae23913bc2212384f98b4c85c7b3ccb00f4acf1a90e520a419c499f6363280f4", checked := Tryz.checked }
namespace Rows
def none {H : Type} : Left H := { results := [], args := [] }

/-- 'pennyfalllaw01.WheelLands': WHATEVER THE INPUT: true; the input reads as it did. -/
def wheelLandsSpec : ChangeSpec := { name := "wheelLands", fn := fun _ => fun
  | [d1, d2, d3] => { results := [.lit (.bool true)], args := [d1, d2, d3] }
  | _ => none }
def wheelLandsRow : OpenClaim := { program := "ytikfhfgdmlijeaagreat", sum := "ae23913bc2212384f98b4c85c7b3ccb00f4acf1a90e520a419c499f6363280f4", func := "pennyfall/pennyfalllaw01.WheelLands", spec := "wheelLands", unfollowed := true, recurses := true, plainKeys := false, apart := false }
def WheelLandsSaid : Prop := wheelLandsRow.holds Tryz.pinned (OpenSpec.ofChange wheelLandsSpec)

/-- ITS FALSE NEIGHBOUR: 'it returns false'. Refute it at one input. -/
def wheelLandsWrong : ChangeSpec := { name := "wheelLands", fn := fun _ => fun
  | [d1, d2, d3] => { results := [.lit (.bool false)], args := [d1, d2, d3] }
  | _ => none }
def WheelLandsWrongFalsely : Prop := wheelLandsRow.holds Tryz.pinned (OpenSpec.ofChange wheelLandsWrong)

/-- 'pennyfalllaw01.WheelShares': WHATEVER THE INPUT: true; the input reads as it did. -/
def wheelSharesSpec : ChangeSpec := { name := "wheelShares", fn := fun _ => fun
  | [d] => { results := [.lit (.bool true)], args := [d] }
  | _ => none }
def wheelSharesRow : OpenClaim := { program := "ytikfhfgdmlijeaagreat", sum := "ae23913bc2212384f98b4c85c7b3ccb00f4acf1a90e520a419c499f6363280f4", func := "pennyfall/pennyfalllaw01.WheelShares", spec := "wheelShares", unfollowed := true, recurses := true, plainKeys := false, apart := false }
def WheelSharesSaid : Prop := wheelSharesRow.holds Tryz.pinned (OpenSpec.ofChange wheelSharesSpec)

/-- ITS FALSE NEIGHBOUR: 'it returns false'. Refute it at one input. -/
def wheelSharesWrong : ChangeSpec := { name := "wheelShares", fn := fun _ => fun
  | [d] => { results := [.lit (.bool false)], args := [d] }
  | _ => none }
def WheelSharesWrongFalsely : Prop := wheelSharesRow.holds Tryz.pinned (OpenSpec.ofChange wheelSharesWrong)

/-- 'pennyfalllaw01.WheelFirsts': WHATEVER THE INPUT: true; the input reads as it did. -/
def wheelFirstsSpec : ChangeSpec := { name := "wheelFirsts", fn := fun _ => fun
  | [d1, d2, d3] => { results := [.lit (.bool true)], args := [d1, d2, d3] }
  | _ => none }
def wheelFirstsRow : OpenClaim := { program := "ytikfhfgdmlijeaagreat", sum := "ae23913bc2212384f98b4c85c7b3ccb00f4acf1a90e520a419c499f6363280f4", func := "pennyfall/pennyfalllaw01.WheelFirsts", spec := "wheelFirsts", unfollowed := true, recurses := true, plainKeys := false, apart := false }
def WheelFirstsSaid : Prop := wheelFirstsRow.holds Tryz.pinned (OpenSpec.ofChange wheelFirstsSpec)

/-- ITS FALSE NEIGHBOUR: 'it returns false'. Refute it at one input. -/
def wheelFirstsWrong : ChangeSpec := { name := "wheelFirsts", fn := fun _ => fun
  | [d1, d2, d3] => { results := [.lit (.bool false)], args := [d1, d2, d3] }
  | _ => none }
def WheelFirstsWrongFalsely : Prop := wheelFirstsRow.holds Tryz.pinned (OpenSpec.ofChange wheelFirstsWrong)

/-- 'pennyfalllaw01.WheelProved': WHATEVER THE INPUT: true; the input reads as it did. -/
def wheelProvedSpec : ChangeSpec := { name := "wheelProved", fn := fun _ => fun
  | [d1, d2] => { results := [.lit (.bool true)], args := [d1, d2] }
  | _ => none }
def wheelProvedRow : OpenClaim := { program := "ytikfhfgdmlijeaagreat", sum := "ae23913bc2212384f98b4c85c7b3ccb00f4acf1a90e520a419c499f6363280f4", func := "pennyfall/pennyfalllaw01.WheelProved", spec := "wheelProved", unfollowed := true, recurses := true, plainKeys := false, apart := false }
def WheelProvedSaid : Prop := wheelProvedRow.holds Tryz.pinned (OpenSpec.ofChange wheelProvedSpec)

/-- ITS FALSE NEIGHBOUR: 'it returns false'. Refute it at one input. -/
def wheelProvedWrong : ChangeSpec := { name := "wheelProved", fn := fun _ => fun
  | [d1, d2] => { results := [.lit (.bool false)], args := [d1, d2] }
  | _ => none }
def WheelProvedWrongFalsely : Prop := wheelProvedRow.holds Tryz.pinned (OpenSpec.ofChange wheelProvedWrong)

/-- 'pennyfalllaw01.WheelStays': WHATEVER THE INPUT: true; the input reads as it did. -/
def wheelStaysSpec : ChangeSpec := { name := "wheelStays", fn := fun _ => fun
  | [d] => { results := [.lit (.bool true)], args := [d] }
  | _ => none }
def wheelStaysRow : OpenClaim := { program := "ytikfhfgdmlijeaagreat", sum := "ae23913bc2212384f98b4c85c7b3ccb00f4acf1a90e520a419c499f6363280f4", func := "pennyfall/pennyfalllaw01.WheelStays", spec := "wheelStays", unfollowed := true, recurses := true, plainKeys := false, apart := false }
def WheelStaysSaid : Prop := wheelStaysRow.holds Tryz.pinned (OpenSpec.ofChange wheelStaysSpec)

/-- ITS FALSE NEIGHBOUR: 'it returns false'. Refute it at one input. -/
def wheelStaysWrong : ChangeSpec := { name := "wheelStays", fn := fun _ => fun
  | [d] => { results := [.lit (.bool false)], args := [d] }
  | _ => none }
def WheelStaysWrongFalsely : Prop := wheelStaysRow.holds Tryz.pinned (OpenSpec.ofChange wheelStaysWrong)

/-- 'pennyfalllaw01.WheelNear': WHATEVER THE INPUT: true; the input reads as it did. -/
def wheelNearSpec : ChangeSpec := { name := "wheelNear", fn := fun _ => fun
  | [d1, d2, d3] => { results := [.lit (.bool true)], args := [d1, d2, d3] }
  | _ => none }
def wheelNearRow : OpenClaim := { program := "ytikfhfgdmlijeaagreat", sum := "ae23913bc2212384f98b4c85c7b3ccb00f4acf1a90e520a419c499f6363280f4", func := "pennyfall/pennyfalllaw01.WheelNear", spec := "wheelNear", unfollowed := true, recurses := true, plainKeys := false, apart := false }
def WheelNearSaid : Prop := wheelNearRow.holds Tryz.pinned (OpenSpec.ofChange wheelNearSpec)

/-- ITS FALSE NEIGHBOUR: 'it returns false'. Refute it at one input. -/
def wheelNearWrong : ChangeSpec := { name := "wheelNear", fn := fun _ => fun
  | [d1, d2, d3] => { results := [.lit (.bool false)], args := [d1, d2, d3] }
  | _ => none }
def WheelNearWrongFalsely : Prop := wheelNearRow.holds Tryz.pinned (OpenSpec.ofChange wheelNearWrong)

/-- 'pennyfalllaw01.WheelTurned': WHATEVER THE INPUT: true; the input reads as it did. -/
def wheelTurnedSpec : ChangeSpec := { name := "wheelTurned", fn := fun _ => fun
  | [d1, d2, d3, d4] => { results := [.lit (.bool true)], args := [d1, d2, d3, d4] }
  | _ => none }
def wheelTurnedRow : OpenClaim := { program := "ytikfhfgdmlijeaagreat", sum := "ae23913bc2212384f98b4c85c7b3ccb00f4acf1a90e520a419c499f6363280f4", func := "pennyfall/pennyfalllaw01.WheelTurned", spec := "wheelTurned", unfollowed := true, recurses := true, plainKeys := false, apart := false }
def WheelTurnedSaid : Prop := wheelTurnedRow.holds Tryz.pinned (OpenSpec.ofChange wheelTurnedSpec)

/-- ITS FALSE NEIGHBOUR: 'it returns false'. Refute it at one input. -/
def wheelTurnedWrong : ChangeSpec := { name := "wheelTurned", fn := fun _ => fun
  | [d1, d2, d3, d4] => { results := [.lit (.bool false)], args := [d1, d2, d3, d4] }
  | _ => none }
def WheelTurnedWrongFalsely : Prop := wheelTurnedRow.holds Tryz.pinned (OpenSpec.ofChange wheelTurnedWrong)

/-- 'pennyfalllaw01.WheelMore': WHATEVER THE INPUT: true; the input reads as it did. -/
def wheelMoreSpec : ChangeSpec := { name := "wheelMore", fn := fun _ => fun
  | [d1, d2, d3] => { results := [.lit (.bool true)], args := [d1, d2, d3] }
  | _ => none }
def wheelMoreRow : OpenClaim := { program := "ytikfhfgdmlijeaagreat", sum := "ae23913bc2212384f98b4c85c7b3ccb00f4acf1a90e520a419c499f6363280f4", func := "pennyfall/pennyfalllaw01.WheelMore", spec := "wheelMore", unfollowed := true, recurses := true, plainKeys := false, apart := false }
def WheelMoreSaid : Prop := wheelMoreRow.holds Tryz.pinned (OpenSpec.ofChange wheelMoreSpec)

/-- ITS FALSE NEIGHBOUR: 'it returns false'. Refute it at one input. -/
def wheelMoreWrong : ChangeSpec := { name := "wheelMore", fn := fun _ => fun
  | [d1, d2, d3] => { results := [.lit (.bool false)], args := [d1, d2, d3] }
  | _ => none }
def WheelMoreWrongFalsely : Prop := wheelMoreRow.holds Tryz.pinned (OpenSpec.ofChange wheelMoreWrong)

/- THE SECOND FORM. 'bulk': how many values and letters a reading holds, each counted each time it is reached (what is shared counts as often as it is met; a slice's spare places count too). A statement '..UptoSaid' is the law's where the arguments, and the package variables that the reading takes, are together of bulk at most 1048576: NARROWER than '..Said'. Prove '..Said' where nothing that the law and all that it calls make is longer than what came in: it says more and counts as full. Else prove '..UptoSaid'. A law counts once. -/
mutual
def uptoBulk {H : Type} : DataW H → Nat
  | .lit (.string bytes) => bytes.length + 1
  | .lit _ => 1
  | .nil => 1
  | .ptr d => uptoBulk d + 1
  | .slice elems spare => uptoBulkAll elems + uptoBulkAll spare + 1
  | .agg parts => uptoBulkAll parts + 1
  | .iface _ d => uptoBulk d + 1
  | .map entries => uptoBulkEntries entries + 1
  | .held _ => 1
def uptoBulkAll {H : Type} : List (DataW H) → Nat
  | [] => 0
  | d :: r => uptoBulk d + uptoBulkAll r
def uptoBulkEntries {H : Type} : List (Lit × DataW H) → Nat
  | [] => 0
  | x :: r => uptoBulkEntry x + uptoBulkEntries r
def uptoBulkEntry {H : Type} : Lit × DataW H → Nat
  | (.string bytes, d) => bytes.length + uptoBulk d + 1
  | (_, d) => uptoBulk d + 1
 end
def uptoSmall : (H : Type) → List (DataW H) → Bool := fun _ ds => decide (uptoBulkAll ds ≤ 1048576)
def OpenSpec.upto (s : _root_.Go.ChangeSpec) : _root_.Go.OpenSpec := { _root_.Go.OpenSpec.ofChange s with cond := some uptoSmall }

/-- 'pennyfalllaw01.WheelLands', WHERE WHAT IT READS IS OF BULK AT MOST 1048576: true; the input reads as it did. -/
def wheelLandsUptoRow : OpenClaim := { program := "ytikfhfgdmlijeaagreat", sum := "ae23913bc2212384f98b4c85c7b3ccb00f4acf1a90e520a419c499f6363280f4", func := "pennyfall/pennyfalllaw01.WheelLands", spec := "wheelLands", unfollowed := true, recurses := true, plainKeys := false, apart := false, narrowed := true }
def WheelLandsUptoSaid : Prop := wheelLandsUptoRow.holds Tryz.pinned (OpenSpec.upto wheelLandsSpec)

/-- 'pennyfalllaw01.WheelShares', WHERE WHAT IT READS IS OF BULK AT MOST 1048576: true; the input reads as it did. -/
def wheelSharesUptoRow : OpenClaim := { program := "ytikfhfgdmlijeaagreat", sum := "ae23913bc2212384f98b4c85c7b3ccb00f4acf1a90e520a419c499f6363280f4", func := "pennyfall/pennyfalllaw01.WheelShares", spec := "wheelShares", unfollowed := true, recurses := true, plainKeys := false, apart := false, narrowed := true }
def WheelSharesUptoSaid : Prop := wheelSharesUptoRow.holds Tryz.pinned (OpenSpec.upto wheelSharesSpec)

/-- 'pennyfalllaw01.WheelFirsts', WHERE WHAT IT READS IS OF BULK AT MOST 1048576: true; the input reads as it did. -/
def wheelFirstsUptoRow : OpenClaim := { program := "ytikfhfgdmlijeaagreat", sum := "ae23913bc2212384f98b4c85c7b3ccb00f4acf1a90e520a419c499f6363280f4", func := "pennyfall/pennyfalllaw01.WheelFirsts", spec := "wheelFirsts", unfollowed := true, recurses := true, plainKeys := false, apart := false, narrowed := true }
def WheelFirstsUptoSaid : Prop := wheelFirstsUptoRow.holds Tryz.pinned (OpenSpec.upto wheelFirstsSpec)

/-- 'pennyfalllaw01.WheelProved', WHERE WHAT IT READS IS OF BULK AT MOST 1048576: true; the input reads as it did. -/
def wheelProvedUptoRow : OpenClaim := { program := "ytikfhfgdmlijeaagreat", sum := "ae23913bc2212384f98b4c85c7b3ccb00f4acf1a90e520a419c499f6363280f4", func := "pennyfall/pennyfalllaw01.WheelProved", spec := "wheelProved", unfollowed := true, recurses := true, plainKeys := false, apart := false, narrowed := true }
def WheelProvedUptoSaid : Prop := wheelProvedUptoRow.holds Tryz.pinned (OpenSpec.upto wheelProvedSpec)

/-- 'pennyfalllaw01.WheelStays', WHERE WHAT IT READS IS OF BULK AT MOST 1048576: true; the input reads as it did. -/
def wheelStaysUptoRow : OpenClaim := { program := "ytikfhfgdmlijeaagreat", sum := "ae23913bc2212384f98b4c85c7b3ccb00f4acf1a90e520a419c499f6363280f4", func := "pennyfall/pennyfalllaw01.WheelStays", spec := "wheelStays", unfollowed := true, recurses := true, plainKeys := false, apart := false, narrowed := true }
def WheelStaysUptoSaid : Prop := wheelStaysUptoRow.holds Tryz.pinned (OpenSpec.upto wheelStaysSpec)

/-- 'pennyfalllaw01.WheelNear', WHERE WHAT IT READS IS OF BULK AT MOST 1048576: true; the input reads as it did. -/
def wheelNearUptoRow : OpenClaim := { program := "ytikfhfgdmlijeaagreat", sum := "ae23913bc2212384f98b4c85c7b3ccb00f4acf1a90e520a419c499f6363280f4", func := "pennyfall/pennyfalllaw01.WheelNear", spec := "wheelNear", unfollowed := true, recurses := true, plainKeys := false, apart := false, narrowed := true }
def WheelNearUptoSaid : Prop := wheelNearUptoRow.holds Tryz.pinned (OpenSpec.upto wheelNearSpec)

/-- 'pennyfalllaw01.WheelTurned', WHERE WHAT IT READS IS OF BULK AT MOST 1048576: true; the input reads as it did. -/
def wheelTurnedUptoRow : OpenClaim := { program := "ytikfhfgdmlijeaagreat", sum := "ae23913bc2212384f98b4c85c7b3ccb00f4acf1a90e520a419c499f6363280f4", func := "pennyfall/pennyfalllaw01.WheelTurned", spec := "wheelTurned", unfollowed := true, recurses := true, plainKeys := false, apart := false, narrowed := true }
def WheelTurnedUptoSaid : Prop := wheelTurnedUptoRow.holds Tryz.pinned (OpenSpec.upto wheelTurnedSpec)

/-- 'pennyfalllaw01.WheelMore', WHERE WHAT IT READS IS OF BULK AT MOST 1048576: true; the input reads as it did. -/
def wheelMoreUptoRow : OpenClaim := { program := "ytikfhfgdmlijeaagreat", sum := "ae23913bc2212384f98b4c85c7b3ccb00f4acf1a90e520a419c499f6363280f4", func := "pennyfall/pennyfalllaw01.WheelMore", spec := "wheelMore", unfollowed := true, recurses := true, plainKeys := false, apart := false, narrowed := true }
def WheelMoreUptoSaid : Prop := wheelMoreUptoRow.holds Tryz.pinned (OpenSpec.upto wheelMoreSpec)

end Rows
end Go.Proofs.YtikfhfgdmlijeaaGreat
