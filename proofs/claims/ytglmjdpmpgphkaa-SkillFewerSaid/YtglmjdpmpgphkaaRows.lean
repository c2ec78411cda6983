/-
  No cell of these rows narrows 'for every input' (looked for: loops, veiled, ifaces, maps, wideKeys, modest, calm, conditions, laid).
  DERIVED. THE GIVEN ROWS OF THIS SEAT. 13 by the template 'for every input the law returns true; each argument reads behind the call as it read before'; 0 by the template 'total and deterministic' (their statements: YtglmjdpmpgphkaaTotals.lean).
  GIVEN WITH THE SEED: the statements are not yours to turn. If you find one false, say at which input.
  Laid BY PROGRAM, IN A SANDBOX (cutbox-rows.mjs): the forced cells as the released guide's own fill.sh prints them over the translation 9d140e200afdd6fa… (all of the seat's roots in one cut). By AI agents, Wed Nov 11 2026. No macro, syntax, notation, axiom, sorry.
-/
import Derived.Test.YtglmjdpmpgphkaaChecked
import GoSem.Claim
import GoSem.ClaimJoined
import GoSem.ClaimMapViews
import Derived.JoinedTies
import Derived.KernelRfl
namespace Go.Proofs.Ytglmjdpmpgphkaa
/- THE CELL 'sum', in the pinned program and in every row, IS THE sha256 OF THE DUMP (.gsa) THAT YtglmjdpmpgphkaaProg.lean LOADS. Nothing in Lean hashes anything: it is a label: what it is worth is what the hold of that sum in a sandbox is worth. -/
noncomputable def Try.pinned : Pinned := { name := "ytglmjdpmpgphkaa", sum := "9d140e200afdd6fa56c5485ac8bf6e675b39450342d8c1dbec0466c796dfcfae", checked := Try.checked }
namespace Rows
def none {H : Type} : Left H := { results := [], args := [] }

/-- 'pennyfalllaw03.SkillMachines': WHATEVER THE INPUT: true; the input reads as it did. -/
def skillMachinesSpec : ChangeSpec := { name := "skillMachines", fn := fun _ => fun
  | [d] => { results := [.lit (.bool true)], args := [d] }
  | _ => none }
def skillMachinesRow : OpenClaim := { program := "ytglmjdpmpgphkaa", sum := "9d140e200afdd6fa56c5485ac8bf6e675b39450342d8c1dbec0466c796dfcfae", func := "pennyfall/pennyfalllaw03.SkillMachines", spec := "skillMachines", unfollowed := true, recurses := true, plainKeys := false, apart := false }
def SkillMachinesSaid : Prop := skillMachinesRow.holds Try.pinned (OpenSpec.ofChange skillMachinesSpec)

/-- ITS FALSE NEIGHBOUR: 'it returns false'. Refute it at one input. -/
def skillMachinesWrong : ChangeSpec := { name := "skillMachines", fn := fun _ => fun
  | [d] => { results := [.lit (.bool false)], args := [d] }
  | _ => none }
def SkillMachinesWrongFalsely : Prop := skillMachinesRow.holds Try.pinned (OpenSpec.ofChange skillMachinesWrong)

/-- 'pennyfalllaw03.SkillRanks': WHATEVER THE INPUT: true; the input reads as it did. -/
def skillRanksSpec : ChangeSpec := { name := "skillRanks", fn := fun _ => fun
  | [d1, d2, d3] => { results := [.lit (.bool true)], args := [d1, d2, d3] }
  | _ => none }
def skillRanksRow : OpenClaim := { program := "ytglmjdpmpgphkaa", sum := "9d140e200afdd6fa56c5485ac8bf6e675b39450342d8c1dbec0466c796dfcfae", func := "pennyfall/pennyfalllaw03.SkillRanks", spec := "skillRanks", unfollowed := true, recurses := true, plainKeys := false, apart := false }
def SkillRanksSaid : Prop := skillRanksRow.holds Try.pinned (OpenSpec.ofChange skillRanksSpec)

/-- ITS FALSE NEIGHBOUR: 'it returns false'. Refute it at one input. -/
def skillRanksWrong : ChangeSpec := { name := "skillRanks", fn := fun _ => fun
  | [d1, d2, d3] => { results := [.lit (.bool false)], args := [d1, d2, d3] }
  | _ => none }
def SkillRanksWrongFalsely : Prop := skillRanksRow.holds Try.pinned (OpenSpec.ofChange skillRanksWrong)

/-- 'pennyfalllaw03.SkillWays': WHATEVER THE INPUT: true; the input reads as it did. -/
def skillWaysSpec : ChangeSpec := { name := "skillWays", fn := fun _ => fun
  | [d1, d2, d3] => { results := [.lit (.bool true)], args := [d1, d2, d3] }
  | _ => none }
def skillWaysRow : OpenClaim := { program := "ytglmjdpmpgphkaa", sum := "9d140e200afdd6fa56c5485ac8bf6e675b39450342d8c1dbec0466c796dfcfae", func := "pennyfall/pennyfalllaw03.SkillWays", spec := "skillWays", unfollowed := true, recurses := true, plainKeys := false, apart := false }
def SkillWaysSaid : Prop := skillWaysRow.holds Try.pinned (OpenSpec.ofChange skillWaysSpec)

/-- ITS FALSE NEIGHBOUR: 'it returns false'. Refute it at one input. -/
def skillWaysWrong : ChangeSpec := { name := "skillWays", fn := fun _ => fun
  | [d1, d2, d3] => { results := [.lit (.bool false)], args := [d1, d2, d3] }
  | _ => none }
def SkillWaysWrongFalsely : Prop := skillWaysRow.holds Try.pinned (OpenSpec.ofChange skillWaysWrong)

/-- 'pennyfalllaw03.SkillPlays': WHATEVER THE INPUT: true; the input reads as it did. -/
def skillPlaysSpec : ChangeSpec := { name := "skillPlays", fn := fun _ => fun
  | [d1, d2, d3, d4] => { results := [.lit (.bool true)], args := [d1, d2, d3, d4] }
  | _ => none }
def skillPlaysRow : OpenClaim := { program := "ytglmjdpmpgphkaa", sum := "9d140e200afdd6fa56c5485ac8bf6e675b39450342d8c1dbec0466c796dfcfae", func := "pennyfall/pennyfalllaw03.SkillPlays", spec := "skillPlays", unfollowed := true, recurses := true, plainKeys := false, apart := false }
def SkillPlaysSaid : Prop := skillPlaysRow.holds Try.pinned (OpenSpec.ofChange skillPlaysSpec)

/-- ITS FALSE NEIGHBOUR: 'it returns false'. Refute it at one input. -/
def skillPlaysWrong : ChangeSpec := { name := "skillPlays", fn := fun _ => fun
  | [d1, d2, d3, d4] => { results := [.lit (.bool false)], args := [d1, d2, d3, d4] }
  | _ => none }
def SkillPlaysWrongFalsely : Prop := skillPlaysRow.holds Try.pinned (OpenSpec.ofChange skillPlaysWrong)

/-- 'pennyfalllaw03.SkillTakes': WHATEVER THE INPUT: true; the input reads as it did. -/
def skillTakesSpec : ChangeSpec := { name := "skillTakes", fn := fun _ => fun
  | [d1, d2, d3] => { results := [.lit (.bool true)], args := [d1, d2, d3] }
  | _ => none }
def skillTakesRow : OpenClaim := { program := "ytglmjdpmpgphkaa", sum := "9d140e200afdd6fa56c5485ac8bf6e675b39450342d8c1dbec0466c796dfcfae", func := "pennyfall/pennyfalllaw03.SkillTakes", spec := "skillTakes", unfollowed := true, recurses := true, plainKeys := false, apart := false }
def SkillTakesSaid : Prop := skillTakesRow.holds Try.pinned (OpenSpec.ofChange skillTakesSpec)

/-- ITS FALSE NEIGHBOUR: 'it returns false'. Refute it at one input. -/
def skillTakesWrong : ChangeSpec := { name := "skillTakes", fn := fun _ => fun
  | [d1, d2, d3] => { results := [.lit (.bool false)], args := [d1, d2, d3] }
  | _ => none }
def SkillTakesWrongFalsely : Prop := skillTakesRow.holds Try.pinned (OpenSpec.ofChange skillTakesWrong)

/-- 'pennyfalllaw03.SkillProved': WHATEVER THE INPUT: true; the input reads as it did. -/
def skillProvedSpec : ChangeSpec := { name := "skillProved", fn := fun _ => fun
  | [d1, d2, d3] => { results := [.lit (.bool true)], args := [d1, d2, d3] }
  | _ => none }
def skillProvedRow : OpenClaim := { program := "ytglmjdpmpgphkaa", sum := "9d140e200afdd6fa56c5485ac8bf6e675b39450342d8c1dbec0466c796dfcfae", func := "pennyfall/pennyfalllaw03.SkillProved", spec := "skillProved", unfollowed := true, recurses := true, plainKeys := false, apart := false }
def SkillProvedSaid : Prop := skillProvedRow.holds Try.pinned (OpenSpec.ofChange skillProvedSpec)

/-- ITS FALSE NEIGHBOUR: 'it returns false'. Refute it at one input. -/
def skillProvedWrong : ChangeSpec := { name := "skillProved", fn := fun _ => fun
  | [d1, d2, d3] => { results := [.lit (.bool false)], args := [d1, d2, d3] }
  | _ => none }
def SkillProvedWrongFalsely : Prop := skillProvedRow.holds Try.pinned (OpenSpec.ofChange skillProvedWrong)

/-- 'pennyfalllaw03.SkillEither': WHATEVER THE INPUT: true; the input reads as it did. -/
def skillEitherSpec : ChangeSpec := { name := "skillEither", fn := fun _ => fun
  | [d1, d2, d3, d4] => { results := [.lit (.bool true)], args := [d1, d2, d3, d4] }
  | _ => none }
def skillEitherRow : OpenClaim := { program := "ytglmjdpmpgphkaa", sum := "9d140e200afdd6fa56c5485ac8bf6e675b39450342d8c1dbec0466c796dfcfae", func := "pennyfall/pennyfalllaw03.SkillEither", spec := "skillEither", unfollowed := true, recurses := true, plainKeys := false, apart := false }
def SkillEitherSaid : Prop := skillEitherRow.holds Try.pinned (OpenSpec.ofChange skillEitherSpec)

/-- ITS FALSE NEIGHBOUR: 'it returns false'. Refute it at one input. -/
def skillEitherWrong : ChangeSpec := { name := "skillEither", fn := fun _ => fun
  | [d1, d2, d3, d4] => { results := [.lit (.bool false)], args := [d1, d2, d3, d4] }
  | _ => none }
def SkillEitherWrongFalsely : Prop := skillEitherRow.holds Try.pinned (OpenSpec.ofChange skillEitherWrong)

/-- 'pennyfalllaw03.SkillPlayed': WHATEVER THE INPUT: true; the input reads as it did. -/
def skillPlayedSpec : ChangeSpec := { name := "skillPlayed", fn := fun _ => fun
  | [d] => { results := [.lit (.bool true)], args := [d] }
  | _ => none }
def skillPlayedRow : OpenClaim := { program := "ytglmjdpmpgphkaa", sum := "9d140e200afdd6fa56c5485ac8bf6e675b39450342d8c1dbec0466c796dfcfae", func := "pennyfall/pennyfalllaw03.SkillPlayed", spec := "skillPlayed", unfollowed := true, recurses := true, plainKeys := false, apart := false }
def SkillPlayedSaid : Prop := skillPlayedRow.holds Try.pinned (OpenSpec.ofChange skillPlayedSpec)

/-- ITS FALSE NEIGHBOUR: 'it returns false'. Refute it at one input. -/
def skillPlayedWrong : ChangeSpec := { name := "skillPlayed", fn := fun _ => fun
  | [d] => { results := [.lit (.bool false)], args := [d] }
  | _ => none }
def SkillPlayedWrongFalsely : Prop := skillPlayedRow.holds Try.pinned (OpenSpec.ofChange skillPlayedWrong)

/-- 'pennyfalllaw03.SkillLess': WHATEVER THE INPUT: true; the input reads as it did. -/
def skillLessSpec : ChangeSpec := { name := "skillLess", fn := fun _ => fun
  | [d1, d2, d3] => { results := [.lit (.bool true)], args := [d1, d2, d3] }
  | _ => none }
def skillLessRow : OpenClaim := { program := "ytglmjdpmpgphkaa", sum := "9d140e200afdd6fa56c5485ac8bf6e675b39450342d8c1dbec0466c796dfcfae", func := "pennyfall/pennyfalllaw03.SkillLess", spec := "skillLess", unfollowed := true, recurses := true, plainKeys := false, apart := false }
def SkillLessSaid : Prop := skillLessRow.holds Try.pinned (OpenSpec.ofChange skillLessSpec)

/-- ITS FALSE NEIGHBOUR: 'it returns false'. Refute it at one input. -/
def skillLessWrong : ChangeSpec := { name := "skillLess", fn := fun _ => fun
  | [d1, d2, d3] => { results := [.lit (.bool false)], args := [d1, d2, d3] }
  | _ => none }
def SkillLessWrongFalsely : Prop := skillLessRow.holds Try.pinned (OpenSpec.ofChange skillLessWrong)

/-- 'pennyfalllaw03.SkillFewer': WHATEVER THE INPUT: true; the input reads as it did. -/
def skillFewerSpec : ChangeSpec := { name := "skillFewer", fn := fun _ => fun
  | [d1, d2, d3] => { results := [.lit (.bool true)], args := [d1, d2, d3] }
  | _ => none }
def skillFewerRow : OpenClaim := { program := "ytglmjdpmpgphkaa", sum := "9d140e200afdd6fa56c5485ac8bf6e675b39450342d8c1dbec0466c796dfcfae", func := "pennyfall/pennyfalllaw03.SkillFewer", spec := "skillFewer", unfollowed := true, recurses := true, plainKeys := false, apart := false }
def SkillFewerSaid : Prop := skillFewerRow.holds Try.pinned (OpenSpec.ofChange skillFewerSpec)

/-- ITS FALSE NEIGHBOUR: 'it returns false'. Refute it at one input. -/
def skillFewerWrong : ChangeSpec := { name := "skillFewer", fn := fun _ => fun
  | [d1, d2, d3] => { results := [.lit (.bool false)], args := [d1, d2, d3] }
  | _ => none }
def SkillFewerWrongFalsely : Prop := skillFewerRow.holds Try.pinned (OpenSpec.ofChange skillFewerWrong)

/-- 'pennyfalllaw03.SkillTurned': WHATEVER THE INPUT: true; the input reads as it did. -/
def skillTurnedSpec : ChangeSpec := { name := "skillTurned", fn := fun _ => fun
  | [d1, d2] => { results := [.lit (.bool true)], args := [d1, d2] }
  | _ => none }
def skillTurnedRow : OpenClaim := { program := "ytglmjdpmpgphkaa", sum := "9d140e200afdd6fa56c5485ac8bf6e675b39450342d8c1dbec0466c796dfcfae", func := "pennyfall/pennyfalllaw03.SkillTurned", spec := "skillTurned", unfollowed := true, recurses := true, plainKeys := false, apart := false }
def SkillTurnedSaid : Prop := skillTurnedRow.holds Try.pinned (OpenSpec.ofChange skillTurnedSpec)

/-- ITS FALSE NEIGHBOUR: 'it returns false'. Refute it at one input. -/
def skillTurnedWrong : ChangeSpec := { name := "skillTurned", fn := fun _ => fun
  | [d1, d2] => { results := [.lit (.bool false)], args := [d1, d2] }
  | _ => none }
def SkillTurnedWrongFalsely : Prop := skillTurnedRow.holds Try.pinned (OpenSpec.ofChange skillTurnedWrong)

/-- 'pennyfalllaw03.SkillAlone': WHATEVER THE INPUT: true; the input reads as it did. -/
def skillAloneSpec : ChangeSpec := { name := "skillAlone", fn := fun _ => fun
  | [d] => { results := [.lit (.bool true)], args := [d] }
  | _ => none }
def skillAloneRow : OpenClaim := { program := "ytglmjdpmpgphkaa", sum := "9d140e200afdd6fa56c5485ac8bf6e675b39450342d8c1dbec0466c796dfcfae", func := "pennyfall/pennyfalllaw03.SkillAlone", spec := "skillAlone", unfollowed := true, recurses := true, plainKeys := false, apart := false }
def SkillAloneSaid : Prop := skillAloneRow.holds Try.pinned (OpenSpec.ofChange skillAloneSpec)

/-- ITS FALSE NEIGHBOUR: 'it returns false'. Refute it at one input. -/
def skillAloneWrong : ChangeSpec := { name := "skillAlone", fn := fun _ => fun
  | [d] => { results := [.lit (.bool false)], args := [d] }
  | _ => none }
def SkillAloneWrongFalsely : Prop := skillAloneRow.holds Try.pinned (OpenSpec.ofChange skillAloneWrong)

/-- 'pennyfalllaw03.SkillKnown': WHATEVER THE INPUT: true; the input reads as it did. -/
def skillKnownSpec : ChangeSpec := { name := "skillKnown", fn := fun _ => fun
  | [] => { results := [.lit (.bool true)], args := [] }
  | _ => none }
def skillKnownRow : OpenClaim := { program := "ytglmjdpmpgphkaa", sum := "9d140e200afdd6fa56c5485ac8bf6e675b39450342d8c1dbec0466c796dfcfae", func := "pennyfall/pennyfalllaw03.SkillKnown", spec := "skillKnown", unfollowed := true, recurses := true, plainKeys := false, apart := false }
def SkillKnownSaid : Prop := skillKnownRow.holds Try.pinned (OpenSpec.ofChange skillKnownSpec)

/-- ITS FALSE NEIGHBOUR: 'it returns false'. Refute it at one input. -/
def skillKnownWrong : ChangeSpec := { name := "skillKnown", fn := fun _ => fun
  | [] => { results := [.lit (.bool false)], args := [] }
  | _ => none }
def SkillKnownWrongFalsely : Prop := skillKnownRow.holds Try.pinned (OpenSpec.ofChange skillKnownWrong)

/- THE SECOND FORM. 'bulk': how many values and letters a reading holds, each counted each time it is reached (what is shared counts as often as it is met; a slice's spare places count too). A statement '..UptoSaid' is the law's where the arguments, and the package variables that the reading takes, are together of bulk at most 1048576: NARROWER than '..Said'. Prove '..Said' where nothing that the law and all that it calls make is longer than what came in: it says more and counts as full. Else prove '..UptoSaid'. A law counts once. -/
mutual
def uptoBulk {H : Type} : DataW H → Nat
  | .lit (.string bytes) => bytes.length + 1
  | .lit _ => 1
  | .nil => 1
  | .ptr d => uptoBulk d + 1
  | .slice elems spare => uptoBulkAll elems + uptoBulkAll spare + 1
  | .agg parts => uptoBulkAll parts + 1
  | .iface _ d => uptoBulk d + 1
  | .map entries => uptoBulkEntries entries + 1
  | .held _ => 1
def uptoBulkAll {H : Type} : List (DataW H) → Nat
  | [] => 0
  | d :: r => uptoBulk d + uptoBulkAll r
def uptoBulkEntries {H : Type} : List (Lit × DataW H) → Nat
  | [] => 0
  | x :: r => uptoBulkEntry x + uptoBulkEntries r
def uptoBulkEntry {H : Type} : Lit × DataW H → Nat
  | (.string bytes, d) => bytes.length + uptoBulk d + 1
  | (_, d) => uptoBulk d + 1
 end
def uptoSmall : (H : Type) → List (DataW H) → Bool := fun _ ds => decide (uptoBulkAll ds ≤ 1048576)
def OpenSpec.upto (s : _root_.Go.ChangeSpec) : _root_.Go.OpenSpec := { _root_.Go.OpenSpec.ofChange s with cond := some uptoSmall }

/-- 'pennyfalllaw03.SkillMachines', WHERE WHAT IT READS IS OF BULK AT MOST 1048576: true; the input reads as it did. -/
def skillMachinesUptoRow : OpenClaim := { program := "ytglmjdpmpgphkaa", sum := "9d140e200afdd6fa56c5485ac8bf6e675b39450342d8c1dbec0466c796dfcfae", func := "pennyfall/pennyfalllaw03.SkillMachines", spec := "skillMachines", unfollowed := true, recurses := true, plainKeys := false, apart := false, narrowed := true }
def SkillMachinesUptoSaid : Prop := skillMachinesUptoRow.holds Try.pinned (OpenSpec.upto skillMachinesSpec)

/-- 'pennyfalllaw03.SkillRanks', WHERE WHAT IT READS IS OF BULK AT MOST 1048576: true; the input reads as it did. -/
def skillRanksUptoRow : OpenClaim := { program := "ytglmjdpmpgphkaa", sum := "9d140e200afdd6fa56c5485ac8bf6e675b39450342d8c1dbec0466c796dfcfae", func := "pennyfall/pennyfalllaw03.SkillRanks", spec := "skillRanks", unfollowed := true, recurses := true, plainKeys := false, apart := false, narrowed := true }
def SkillRanksUptoSaid : Prop := skillRanksUptoRow.holds Try.pinned (OpenSpec.upto skillRanksSpec)

/-- 'pennyfalllaw03.SkillWays', WHERE WHAT IT READS IS OF BULK AT MOST 1048576: true; the input reads as it did. -/
def skillWaysUptoRow : OpenClaim := { program := "ytglmjdpmpgphkaa", sum := "9d140e200afdd6fa56c5485ac8bf6e675b39450342d8c1dbec0466c796dfcfae", func := "pennyfall/pennyfalllaw03.SkillWays", spec := "skillWays", unfollowed := true, recurses := true, plainKeys := false, apart := false, narrowed := true }
def SkillWaysUptoSaid : Prop := skillWaysUptoRow.holds Try.pinned (OpenSpec.upto skillWaysSpec)

/-- 'pennyfalllaw03.SkillPlays', WHERE WHAT IT READS IS OF BULK AT MOST 1048576: true; the input reads as it did. -/
def skillPlaysUptoRow : OpenClaim := { program := "ytglmjdpmpgphkaa", sum := "9d140e200afdd6fa56c5485ac8bf6e675b39450342d8c1dbec0466c796dfcfae", func := "pennyfall/pennyfalllaw03.SkillPlays", spec := "skillPlays", unfollowed := true, recurses := true, plainKeys := false, apart := false, narrowed := true }
def SkillPlaysUptoSaid : Prop := skillPlaysUptoRow.holds Try.pinned (OpenSpec.upto skillPlaysSpec)

/-- 'pennyfalllaw03.SkillTakes', WHERE WHAT IT READS IS OF BULK AT MOST 1048576: true; the input reads as it did. -/
def skillTakesUptoRow : OpenClaim := { program := "ytglmjdpmpgphkaa", sum := "9d140e200afdd6fa56c5485ac8bf6e675b39450342d8c1dbec0466c796dfcfae", func := "pennyfall/pennyfalllaw03.SkillTakes", spec := "skillTakes", unfollowed := true, recurses := true, plainKeys := false, apart := false, narrowed := true }
def SkillTakesUptoSaid : Prop := skillTakesUptoRow.holds Try.pinned (OpenSpec.upto skillTakesSpec)

/-- 'pennyfalllaw03.SkillProved', WHERE WHAT IT READS IS OF BULK AT MOST 1048576: true; the input reads as it did. -/
def skillProvedUptoRow : OpenClaim := { program := "ytglmjdpmpgphkaa", sum := "9d140e200afdd6fa56c5485ac8bf6e675b39450342d8c1dbec0466c796dfcfae", func := "pennyfall/pennyfalllaw03.SkillProved", spec := "skillProved", unfollowed := true, recurses := true, plainKeys := false, apart := false, narrowed := true }
def SkillProvedUptoSaid : Prop := skillProvedUptoRow.holds Try.pinned (OpenSpec.upto skillProvedSpec)

/-- 'pennyfalllaw03.SkillEither', WHERE WHAT IT READS IS OF BULK AT MOST 1048576: true; the input reads as it did. -/
def skillEitherUptoRow : OpenClaim := { program := "ytglmjdpmpgphkaa", sum := "9d140e200afdd6fa56c5485ac8bf6e675b39450342d8c1dbec0466c796dfcfae", func := "pennyfall/pennyfalllaw03.SkillEither", spec := "skillEither", unfollowed := true, recurses := true, plainKeys := false, apart := false, narrowed := true }
def SkillEitherUptoSaid : Prop := skillEitherUptoRow.holds Try.pinned (OpenSpec.upto skillEitherSpec)

/-- 'pennyfalllaw03.SkillPlayed', WHERE WHAT IT READS IS OF BULK AT MOST 1048576: true; the input reads as it did. -/
def skillPlayedUptoRow : OpenClaim := { program := "ytglmjdpmpgphkaa", sum := "9d140e200afdd6fa56c5485ac8bf6e675b39450342d8c1dbec0466c796dfcfae", func := "pennyfall/pennyfalllaw03.SkillPlayed", spec := "skillPlayed", unfollowed := true, recurses := true, plainKeys := false, apart := false, narrowed := true }
def SkillPlayedUptoSaid : Prop := skillPlayedUptoRow.holds Try.pinned (OpenSpec.upto skillPlayedSpec)

/-- 'pennyfalllaw03.SkillLess', WHERE WHAT IT READS IS OF BULK AT MOST 1048576: true; the input reads as it did. -/
def skillLessUptoRow : OpenClaim := { program := "ytglmjdpmpgphkaa", sum := "9d140e200afdd6fa56c5485ac8bf6e675b39450342d8c1dbec0466c796dfcfae", func := "pennyfall/pennyfalllaw03.SkillLess", spec := "skillLess", unfollowed := true, recurses := true, plainKeys := false, apart := false, narrowed := true }
def SkillLessUptoSaid : Prop := skillLessUptoRow.holds Try.pinned (OpenSpec.upto skillLessSpec)

/-- 'pennyfalllaw03.SkillFewer', WHERE WHAT IT READS IS OF BULK AT MOST 1048576: true; the input reads as it did. -/
def skillFewerUptoRow : OpenClaim := { program := "ytglmjdpmpgphkaa", sum := "9d140e200afdd6fa56c5485ac8bf6e675b39450342d8c1dbec0466c796dfcfae", func := "pennyfall/pennyfalllaw03.SkillFewer", spec := "skillFewer", unfollowed := true, recurses := true, plainKeys := false, apart := false, narrowed := true }
def SkillFewerUptoSaid : Prop := skillFewerUptoRow.holds Try.pinned (OpenSpec.upto skillFewerSpec)

/-- 'pennyfalllaw03.SkillTurned', WHERE WHAT IT READS IS OF BULK AT MOST 1048576: true; the input reads as it did. -/
def skillTurnedUptoRow : OpenClaim := { program := "ytglmjdpmpgphkaa", sum := "9d140e200afdd6fa56c5485ac8bf6e675b39450342d8c1dbec0466c796dfcfae", func := "pennyfall/pennyfalllaw03.SkillTurned", spec := "skillTurned", unfollowed := true, recurses := true, plainKeys := false, apart := false, narrowed := true }
def SkillTurnedUptoSaid : Prop := skillTurnedUptoRow.holds Try.pinned (OpenSpec.upto skillTurnedSpec)

/-- 'pennyfalllaw03.SkillAlone', WHERE WHAT IT READS IS OF BULK AT MOST 1048576: true; the input reads as it did. -/
def skillAloneUptoRow : OpenClaim := { program := "ytglmjdpmpgphkaa", sum := "9d140e200afdd6fa56c5485ac8bf6e675b39450342d8c1dbec0466c796dfcfae", func := "pennyfall/pennyfalllaw03.SkillAlone", spec := "skillAlone", unfollowed := true, recurses := true, plainKeys := false, apart := false, narrowed := true }
def SkillAloneUptoSaid : Prop := skillAloneUptoRow.holds Try.pinned (OpenSpec.upto skillAloneSpec)

/-- 'pennyfalllaw03.SkillKnown', WHERE WHAT IT READS IS OF BULK AT MOST 1048576: true; the input reads as it did. -/
def skillKnownUptoRow : OpenClaim := { program := "ytglmjdpmpgphkaa", sum := "9d140e200afdd6fa56c5485ac8bf6e675b39450342d8c1dbec0466c796dfcfae", func := "pennyfall/pennyfalllaw03.SkillKnown", spec := "skillKnown", unfollowed := true, recurses := true, plainKeys := false, apart := false, narrowed := true }
def SkillKnownUptoSaid : Prop := skillKnownUptoRow.holds Try.pinned (OpenSpec.upto skillKnownSpec)

end Rows
end Go.Proofs.Ytglmjdpmpgphkaa
