/-
  No cell of these rows narrows 'for every input' (looked for: loops, veiled, ifaces, maps, wideKeys, modest, calm, conditions, laid).
  DERIVED. THE GIVEN ROWS OF THIS SEAT. 14 by the template 'for every input the law returns true; each argument reads behind the call as it read before'; 0 by the template 'total and deterministic' (their statements: YtmcjoahnlbckoaaTotals.lean).
  GIVEN WITH THE SEED: the statements are not yours to turn. If you find one false, say at which input.
  Laid BY PROGRAM, IN A SANDBOX (cutbox-rows.mjs): the forced cells as the released guide's own fill.sh prints them over the translation 53baaf6d83966ac0… (all of the seat's roots in one cut). By AI agents, Wed Nov 11 2026. No macro, syntax, notation, axiom, sorry.
-/
import Derived.Test.YtmcjoahnlbckoaaChecked
import GoSem.Claim
import GoSem.ClaimJoined
import GoSem.ClaimMapViews
import Derived.JoinedTies
import Derived.KernelRfl
namespace Go.Proofs.Ytmcjoahnlbckoaa
/- THE CELL 'sum', in the pinned program and in every row, IS THE sha256 OF THE DUMP (.gsa) THAT YtmcjoahnlbckoaaProg.lean LOADS. Nothing in Lean hashes anything: it is a label: what it is worth is what the hold of that sum in a sandbox is worth. -/
noncomputable def Try.pinned : Pinned := { name := "ytmcjoahnlbckoaa", sum := "53baaf6d83966ac035c148edfc6be32ddc2879bffb77675a9d514a2346564bb1", checked := Try.checked }
namespace Rows
def none {H : Type} : Left H := { results := [], args := [] }

/-- 'pennyfalllaw08.RingBooks': WHATEVER THE INPUT: true; the input reads as it did. -/
def ringBooksSpec : ChangeSpec := { name := "ringBooks", fn := fun _ => fun
  | [d1, d2, d3, d4] => { results := [.lit (.bool true)], args := [d1, d2, d3, d4] }
  | _ => none }
def ringBooksRow : OpenClaim := { program := "ytmcjoahnlbckoaa", sum := "53baaf6d83966ac035c148edfc6be32ddc2879bffb77675a9d514a2346564bb1", func := "pennyfall/pennyfalllaw08.RingBooks", spec := "ringBooks", unfollowed := true, recurses := true, plainKeys := false, apart := false }
def RingBooksSaid : Prop := ringBooksRow.holds Try.pinned (OpenSpec.ofChange ringBooksSpec)

/-- ITS FALSE NEIGHBOUR: 'it returns false'. Refute it at one input. -/
def ringBooksWrong : ChangeSpec := { name := "ringBooks", fn := fun _ => fun
  | [d1, d2, d3, d4] => { results := [.lit (.bool false)], args := [d1, d2, d3, d4] }
  | _ => none }
def RingBooksWrongFalsely : Prop := ringBooksRow.holds Try.pinned (OpenSpec.ofChange ringBooksWrong)

/-- 'pennyfalllaw08.RingFewests': WHATEVER THE INPUT: true; the input reads as it did. -/
def ringFewestsSpec : ChangeSpec := { name := "ringFewests", fn := fun _ => fun
  | [d1, d2] => { results := [.lit (.bool true)], args := [d1, d2] }
  | _ => none }
def ringFewestsRow : OpenClaim := { program := "ytmcjoahnlbckoaa", sum := "53baaf6d83966ac035c148edfc6be32ddc2879bffb77675a9d514a2346564bb1", func := "pennyfall/pennyfalllaw08.RingFewests", spec := "ringFewests", unfollowed := true, recurses := true, plainKeys := false, apart := false }
def RingFewestsSaid : Prop := ringFewestsRow.holds Try.pinned (OpenSpec.ofChange ringFewestsSpec)

/-- ITS FALSE NEIGHBOUR: 'it returns false'. Refute it at one input. -/
def ringFewestsWrong : ChangeSpec := { name := "ringFewests", fn := fun _ => fun
  | [d1, d2] => { results := [.lit (.bool false)], args := [d1, d2] }
  | _ => none }
def RingFewestsWrongFalsely : Prop := ringFewestsRow.holds Try.pinned (OpenSpec.ofChange ringFewestsWrong)

/-- 'pennyfalllaw08.RingProofs': WHATEVER THE INPUT: true; the input reads as it did. -/
def ringProofsSpec : ChangeSpec := { name := "ringProofs", fn := fun _ => fun
  | [d1, d2, d3] => { results := [.lit (.bool true)], args := [d1, d2, d3] }
  | _ => none }
def ringProofsRow : OpenClaim := { program := "ytmcjoahnlbckoaa", sum := "53baaf6d83966ac035c148edfc6be32ddc2879bffb77675a9d514a2346564bb1", func := "pennyfall/pennyfalllaw08.RingProofs", spec := "ringProofs", unfollowed := true, recurses := true, plainKeys := false, apart := false }
def RingProofsSaid : Prop := ringProofsRow.holds Try.pinned (OpenSpec.ofChange ringProofsSpec)

/-- ITS FALSE NEIGHBOUR: 'it returns false'. Refute it at one input. -/
def ringProofsWrong : ChangeSpec := { name := "ringProofs", fn := fun _ => fun
  | [d1, d2, d3] => { results := [.lit (.bool false)], args := [d1, d2, d3] }
  | _ => none }
def RingProofsWrongFalsely : Prop := ringProofsRow.holds Try.pinned (OpenSpec.ofChange ringProofsWrong)

/-- 'pennyfalllaw08.RingKinds': WHATEVER THE INPUT: true; the input reads as it did. -/
def ringKindsSpec : ChangeSpec := { name := "ringKinds", fn := fun _ => fun
  | [d1, d2, d3] => { results := [.lit (.bool true)], args := [d1, d2, d3] }
  | _ => none }
def ringKindsRow : OpenClaim := { program := "ytmcjoahnlbckoaa", sum := "53baaf6d83966ac035c148edfc6be32ddc2879bffb77675a9d514a2346564bb1", func := "pennyfall/pennyfalllaw08.RingKinds", spec := "ringKinds", unfollowed := true, recurses := true, plainKeys := false, apart := false }
def RingKindsSaid : Prop := ringKindsRow.holds Try.pinned (OpenSpec.ofChange ringKindsSpec)

/-- ITS FALSE NEIGHBOUR: 'it returns false'. Refute it at one input. -/
def ringKindsWrong : ChangeSpec := { name := "ringKinds", fn := fun _ => fun
  | [d1, d2, d3] => { results := [.lit (.bool false)], args := [d1, d2, d3] }
  | _ => none }
def RingKindsWrongFalsely : Prop := ringKindsRow.holds Try.pinned (OpenSpec.ofChange ringKindsWrong)

/-- 'pennyfalllaw08.RingProved': WHATEVER THE INPUT: true; the input reads as it did. -/
def ringProvedSpec : ChangeSpec := { name := "ringProved", fn := fun _ => fun
  | [d1, d2, d3, d4] => { results := [.lit (.bool true)], args := [d1, d2, d3, d4] }
  | _ => none }
def ringProvedRow : OpenClaim := { program := "ytmcjoahnlbckoaa", sum := "53baaf6d83966ac035c148edfc6be32ddc2879bffb77675a9d514a2346564bb1", func := "pennyfall/pennyfalllaw08.RingProved", spec := "ringProved", unfollowed := true, recurses := true, plainKeys := false, apart := false }
def RingProvedSaid : Prop := ringProvedRow.holds Try.pinned (OpenSpec.ofChange ringProvedSpec)

/-- ITS FALSE NEIGHBOUR: 'it returns false'. Refute it at one input. -/
def ringProvedWrong : ChangeSpec := { name := "ringProved", fn := fun _ => fun
  | [d1, d2, d3, d4] => { results := [.lit (.bool false)], args := [d1, d2, d3, d4] }
  | _ => none }
def RingProvedWrongFalsely : Prop := ringProvedRow.holds Try.pinned (OpenSpec.ofChange ringProvedWrong)

/-- 'pennyfalllaw08.RingDays': WHATEVER THE INPUT: true; the input reads as it did. -/
def ringDaysSpec : ChangeSpec := { name := "ringDays", fn := fun _ => fun
  | [d1, d2] => { results := [.lit (.bool true)], args := [d1, d2] }
  | _ => none }
def ringDaysRow : OpenClaim := { program := "ytmcjoahnlbckoaa", sum := "53baaf6d83966ac035c148edfc6be32ddc2879bffb77675a9d514a2346564bb1", func := "pennyfall/pennyfalllaw08.RingDays", spec := "ringDays", unfollowed := true, recurses := true, plainKeys := false, apart := false }
def RingDaysSaid : Prop := ringDaysRow.holds Try.pinned (OpenSpec.ofChange ringDaysSpec)

/-- ITS FALSE NEIGHBOUR: 'it returns false'. Refute it at one input. -/
def ringDaysWrong : ChangeSpec := { name := "ringDays", fn := fun _ => fun
  | [d1, d2] => { results := [.lit (.bool false)], args := [d1, d2] }
  | _ => none }
def RingDaysWrongFalsely : Prop := ringDaysRow.holds Try.pinned (OpenSpec.ofChange ringDaysWrong)

/-- 'pennyfalllaw08.RingEither': WHATEVER THE INPUT: true; the input reads as it did. -/
def ringEitherSpec : ChangeSpec := { name := "ringEither", fn := fun _ => fun
  | [d1, d2] => { results := [.lit (.bool true)], args := [d1, d2] }
  | _ => none }
def ringEitherRow : OpenClaim := { program := "ytmcjoahnlbckoaa", sum := "53baaf6d83966ac035c148edfc6be32ddc2879bffb77675a9d514a2346564bb1", func := "pennyfall/pennyfalllaw08.RingEither", spec := "ringEither", unfollowed := true, recurses := true, plainKeys := false, apart := false }
def RingEitherSaid : Prop := ringEitherRow.holds Try.pinned (OpenSpec.ofChange ringEitherSpec)

/-- ITS FALSE NEIGHBOUR: 'it returns false'. Refute it at one input. -/
def ringEitherWrong : ChangeSpec := { name := "ringEither", fn := fun _ => fun
  | [d1, d2] => { results := [.lit (.bool false)], args := [d1, d2] }
  | _ => none }
def RingEitherWrongFalsely : Prop := ringEitherRow.holds Try.pinned (OpenSpec.ofChange ringEitherWrong)

/-- 'pennyfalllaw08.RingCounted': WHATEVER THE INPUT: true; the input reads as it did. -/
def ringCountedSpec : ChangeSpec := { name := "ringCounted", fn := fun _ => fun
  | [d1, d2] => { results := [.lit (.bool true)], args := [d1, d2] }
  | _ => none }
def ringCountedRow : OpenClaim := { program := "ytmcjoahnlbckoaa", sum := "53baaf6d83966ac035c148edfc6be32ddc2879bffb77675a9d514a2346564bb1", func := "pennyfall/pennyfalllaw08.RingCounted", spec := "ringCounted", unfollowed := true, recurses := true, plainKeys := false, apart := false }
def RingCountedSaid : Prop := ringCountedRow.holds Try.pinned (OpenSpec.ofChange ringCountedSpec)

/-- ITS FALSE NEIGHBOUR: 'it returns false'. Refute it at one input. -/
def ringCountedWrong : ChangeSpec := { name := "ringCounted", fn := fun _ => fun
  | [d1, d2] => { results := [.lit (.bool false)], args := [d1, d2] }
  | _ => none }
def RingCountedWrongFalsely : Prop := ringCountedRow.holds Try.pinned (OpenSpec.ofChange ringCountedWrong)

/-- 'pennyfalllaw08.RingParted': WHATEVER THE INPUT: true; the input reads as it did. -/
def ringPartedSpec : ChangeSpec := { name := "ringParted", fn := fun _ => fun
  | [d1, d2, d3, d4] => { results := [.lit (.bool true)], args := [d1, d2, d3, d4] }
  | _ => none }
def ringPartedRow : OpenClaim := { program := "ytmcjoahnlbckoaa", sum := "53baaf6d83966ac035c148edfc6be32ddc2879bffb77675a9d514a2346564bb1", func := "pennyfall/pennyfalllaw08.RingParted", spec := "ringParted", unfollowed := true, recurses := true, plainKeys := false, apart := false }
def RingPartedSaid : Prop := ringPartedRow.holds Try.pinned (OpenSpec.ofChange ringPartedSpec)

/-- ITS FALSE NEIGHBOUR: 'it returns false'. Refute it at one input. -/
def ringPartedWrong : ChangeSpec := { name := "ringParted", fn := fun _ => fun
  | [d1, d2, d3, d4] => { results := [.lit (.bool false)], args := [d1, d2, d3, d4] }
  | _ => none }
def RingPartedWrongFalsely : Prop := ringPartedRow.holds Try.pinned (OpenSpec.ofChange ringPartedWrong)

/-- 'pennyfalllaw08.RingMore': WHATEVER THE INPUT: true; the input reads as it did. -/
def ringMoreSpec : ChangeSpec := { name := "ringMore", fn := fun _ => fun
  | [d1, d2, d3, d4, d5] => { results := [.lit (.bool true)], args := [d1, d2, d3, d4, d5] }
  | _ => none }
def ringMoreRow : OpenClaim := { program := "ytmcjoahnlbckoaa", sum := "53baaf6d83966ac035c148edfc6be32ddc2879bffb77675a9d514a2346564bb1", func := "pennyfall/pennyfalllaw08.RingMore", spec := "ringMore", unfollowed := true, recurses := true, plainKeys := false, apart := false }
def RingMoreSaid : Prop := ringMoreRow.holds Try.pinned (OpenSpec.ofChange ringMoreSpec)

/-- ITS FALSE NEIGHBOUR: 'it returns false'. Refute it at one input. -/
def ringMoreWrong : ChangeSpec := { name := "ringMore", fn := fun _ => fun
  | [d1, d2, d3, d4, d5] => { results := [.lit (.bool false)], args := [d1, d2, d3, d4, d5] }
  | _ => none }
def RingMoreWrongFalsely : Prop := ringMoreRow.holds Try.pinned (OpenSpec.ofChange ringMoreWrong)

/-- 'pennyfalllaw08.RingApart': WHATEVER THE INPUT: true; the input reads as it did. -/
def ringApartSpec : ChangeSpec := { name := "ringApart", fn := fun _ => fun
  | [d1, d2, d3] => { results := [.lit (.bool true)], args := [d1, d2, d3] }
  | _ => none }
def ringApartRow : OpenClaim := { program := "ytmcjoahnlbckoaa", sum := "53baaf6d83966ac035c148edfc6be32ddc2879bffb77675a9d514a2346564bb1", func := "pennyfall/pennyfalllaw08.RingApart", spec := "ringApart", unfollowed := true, recurses := true, plainKeys := false, apart := false }
def RingApartSaid : Prop := ringApartRow.holds Try.pinned (OpenSpec.ofChange ringApartSpec)

/-- ITS FALSE NEIGHBOUR: 'it returns false'. Refute it at one input. -/
def ringApartWrong : ChangeSpec := { name := "ringApart", fn := fun _ => fun
  | [d1, d2, d3] => { results := [.lit (.bool false)], args := [d1, d2, d3] }
  | _ => none }
def RingApartWrongFalsely : Prop := ringApartRow.holds Try.pinned (OpenSpec.ofChange ringApartWrong)

/-- 'pennyfalllaw08.RingStretched': WHATEVER THE INPUT: true; the input reads as it did. -/
def ringStretchedSpec : ChangeSpec := { name := "ringStretched", fn := fun _ => fun
  | [d1, d2, d3, d4, d5] => { results := [.lit (.bool true)], args := [d1, d2, d3, d4, d5] }
  | _ => none }
def ringStretchedRow : OpenClaim := { program := "ytmcjoahnlbckoaa", sum := "53baaf6d83966ac035c148edfc6be32ddc2879bffb77675a9d514a2346564bb1", func := "pennyfall/pennyfalllaw08.RingStretched", spec := "ringStretched", unfollowed := true, recurses := true, plainKeys := false, apart := false }
def RingStretchedSaid : Prop := ringStretchedRow.holds Try.pinned (OpenSpec.ofChange ringStretchedSpec)

/-- ITS FALSE NEIGHBOUR: 'it returns false'. Refute it at one input. -/
def ringStretchedWrong : ChangeSpec := { name := "ringStretched", fn := fun _ => fun
  | [d1, d2, d3, d4, d5] => { results := [.lit (.bool false)], args := [d1, d2, d3, d4, d5] }
  | _ => none }
def RingStretchedWrongFalsely : Prop := ringStretchedRow.holds Try.pinned (OpenSpec.ofChange ringStretchedWrong)

/-- 'pennyfalllaw08.RingKind': WHATEVER THE INPUT: true; the input reads as it did. -/
def ringKindSpec : ChangeSpec := { name := "ringKind", fn := fun _ => fun
  | [d1, d2, d3] => { results := [.lit (.bool true)], args := [d1, d2, d3] }
  | _ => none }
def ringKindRow : OpenClaim := { program := "ytmcjoahnlbckoaa", sum := "53baaf6d83966ac035c148edfc6be32ddc2879bffb77675a9d514a2346564bb1", func := "pennyfall/pennyfalllaw08.RingKind", spec := "ringKind", unfollowed := true, recurses := true, plainKeys := false, apart := false }
def RingKindSaid : Prop := ringKindRow.holds Try.pinned (OpenSpec.ofChange ringKindSpec)

/-- ITS FALSE NEIGHBOUR: 'it returns false'. Refute it at one input. -/
def ringKindWrong : ChangeSpec := { name := "ringKind", fn := fun _ => fun
  | [d1, d2, d3] => { results := [.lit (.bool false)], args := [d1, d2, d3] }
  | _ => none }
def RingKindWrongFalsely : Prop := ringKindRow.holds Try.pinned (OpenSpec.ofChange ringKindWrong)

/-- 'pennyfalllaw08.RingKnown': WHATEVER THE INPUT: true; the input reads as it did. -/
def ringKnownSpec : ChangeSpec := { name := "ringKnown", fn := fun _ => fun
  | [] => { results := [.lit (.bool true)], args := [] }
  | _ => none }
def ringKnownRow : OpenClaim := { program := "ytmcjoahnlbckoaa", sum := "53baaf6d83966ac035c148edfc6be32ddc2879bffb77675a9d514a2346564bb1", func := "pennyfall/pennyfalllaw08.RingKnown", spec := "ringKnown", unfollowed := true, recurses := true, plainKeys := false, apart := false }
def RingKnownSaid : Prop := ringKnownRow.holds Try.pinned (OpenSpec.ofChange ringKnownSpec)

/-- ITS FALSE NEIGHBOUR: 'it returns false'. Refute it at one input. -/
def ringKnownWrong : ChangeSpec := { name := "ringKnown", fn := fun _ => fun
  | [] => { results := [.lit (.bool false)], args := [] }
  | _ => none }
def RingKnownWrongFalsely : Prop := ringKnownRow.holds Try.pinned (OpenSpec.ofChange ringKnownWrong)

/- THE SECOND FORM. 'bulk': how many values and letters a reading holds, each counted each time it is reached (what is shared counts as often as it is met; a slice's spare places count too). A statement '..UptoSaid' is the law's where the arguments, and the package variables that the reading takes, are together of bulk at most 1048576: NARROWER than '..Said'. Prove '..Said' where nothing that the law and all that it calls make is longer than what came in: it says more and counts as full. Else prove '..UptoSaid'. A law counts once. -/
mutual
def uptoBulk {H : Type} : DataW H → Nat
  | .lit (.string bytes) => bytes.length + 1
  | .lit _ => 1
  | .nil => 1
  | .ptr d => uptoBulk d + 1
  | .slice elems spare => uptoBulkAll elems + uptoBulkAll spare + 1
  | .agg parts => uptoBulkAll parts + 1
  | .iface _ d => uptoBulk d + 1
  | .map entries => uptoBulkEntries entries + 1
  | .held _ => 1
def uptoBulkAll {H : Type} : List (DataW H) → Nat
  | [] => 0
  | d :: r => uptoBulk d + uptoBulkAll r
def uptoBulkEntries {H : Type} : List (Lit × DataW H) → Nat
  | [] => 0
  | x :: r => uptoBulkEntry x + uptoBulkEntries r
def uptoBulkEntry {H : Type} : Lit × DataW H → Nat
  | (.string bytes, d) => bytes.length + uptoBulk d + 1
  | (_, d) => uptoBulk d + 1
 end
def uptoSmall : (H : Type) → List (DataW H) → Bool := fun _ ds => decide (uptoBulkAll ds ≤ 1048576)
def OpenSpec.upto (s : _root_.Go.ChangeSpec) : _root_.Go.OpenSpec := { _root_.Go.OpenSpec.ofChange s with cond := some uptoSmall }

/-- 'pennyfalllaw08.RingBooks', WHERE WHAT IT READS IS OF BULK AT MOST 1048576: true; the input reads as it did. -/
def ringBooksUptoRow : OpenClaim := { program := "ytmcjoahnlbckoaa", sum := "53baaf6d83966ac035c148edfc6be32ddc2879bffb77675a9d514a2346564bb1", func := "pennyfall/pennyfalllaw08.RingBooks", spec := "ringBooks", unfollowed := true, recurses := true, plainKeys := false, apart := false, narrowed := true }
def RingBooksUptoSaid : Prop := ringBooksUptoRow.holds Try.pinned (OpenSpec.upto ringBooksSpec)

/-- 'pennyfalllaw08.RingFewests', WHERE WHAT IT READS IS OF BULK AT MOST 1048576: true; the input reads as it did. -/
def ringFewestsUptoRow : OpenClaim := { program := "ytmcjoahnlbckoaa", sum := "53baaf6d83966ac035c148edfc6be32ddc2879bffb77675a9d514a2346564bb1", func := "pennyfall/pennyfalllaw08.RingFewests", spec := "ringFewests", unfollowed := true, recurses := true, plainKeys := false, apart := false, narrowed := true }
def RingFewestsUptoSaid : Prop := ringFewestsUptoRow.holds Try.pinned (OpenSpec.upto ringFewestsSpec)

/-- 'pennyfalllaw08.RingProofs', WHERE WHAT IT READS IS OF BULK AT MOST 1048576: true; the input reads as it did. -/
def ringProofsUptoRow : OpenClaim := { program := "ytmcjoahnlbckoaa", sum := "53baaf6d83966ac035c148edfc6be32ddc2879bffb77675a9d514a2346564bb1", func := "pennyfall/pennyfalllaw08.RingProofs", spec := "ringProofs", unfollowed := true, recurses := true, plainKeys := false, apart := false, narrowed := true }
def RingProofsUptoSaid : Prop := ringProofsUptoRow.holds Try.pinned (OpenSpec.upto ringProofsSpec)

/-- 'pennyfalllaw08.RingKinds', WHERE WHAT IT READS IS OF BULK AT MOST 1048576: true; the input reads as it did. -/
def ringKindsUptoRow : OpenClaim := { program := "ytmcjoahnlbckoaa", sum := "53baaf6d83966ac035c148edfc6be32ddc2879bffb77675a9d514a2346564bb1", func := "pennyfall/pennyfalllaw08.RingKinds", spec := "ringKinds", unfollowed := true, recurses := true, plainKeys := false, apart := false, narrowed := true }
def RingKindsUptoSaid : Prop := ringKindsUptoRow.holds Try.pinned (OpenSpec.upto ringKindsSpec)

/-- 'pennyfalllaw08.RingProved', WHERE WHAT IT READS IS OF BULK AT MOST 1048576: true; the input reads as it did. -/
def ringProvedUptoRow : OpenClaim := { program := "ytmcjoahnlbckoaa", sum := "53baaf6d83966ac035c148edfc6be32ddc2879bffb77675a9d514a2346564bb1", func := "pennyfall/pennyfalllaw08.RingProved", spec := "ringProved", unfollowed := true, recurses := true, plainKeys := false, apart := false, narrowed := true }
def RingProvedUptoSaid : Prop := ringProvedUptoRow.holds Try.pinned (OpenSpec.upto ringProvedSpec)

/-- 'pennyfalllaw08.RingDays', WHERE WHAT IT READS IS OF BULK AT MOST 1048576: true; the input reads as it did. -/
def ringDaysUptoRow : OpenClaim := { program := "ytmcjoahnlbckoaa", sum := "53baaf6d83966ac035c148edfc6be32ddc2879bffb77675a9d514a2346564bb1", func := "pennyfall/pennyfalllaw08.RingDays", spec := "ringDays", unfollowed := true, recurses := true, plainKeys := false, apart := false, narrowed := true }
def RingDaysUptoSaid : Prop := ringDaysUptoRow.holds Try.pinned (OpenSpec.upto ringDaysSpec)

/-- 'pennyfalllaw08.RingEither', WHERE WHAT IT READS IS OF BULK AT MOST 1048576: true; the input reads as it did. -/
def ringEitherUptoRow : OpenClaim := { program := "ytmcjoahnlbckoaa", sum := "53baaf6d83966ac035c148edfc6be32ddc2879bffb77675a9d514a2346564bb1", func := "pennyfall/pennyfalllaw08.RingEither", spec := "ringEither", unfollowed := true, recurses := true, plainKeys := false, apart := false, narrowed := true }
def RingEitherUptoSaid : Prop := ringEitherUptoRow.holds Try.pinned (OpenSpec.upto ringEitherSpec)

/-- 'pennyfalllaw08.RingCounted', WHERE WHAT IT READS IS OF BULK AT MOST 1048576: true; the input reads as it did. -/
def ringCountedUptoRow : OpenClaim := { program := "ytmcjoahnlbckoaa", sum := "53baaf6d83966ac035c148edfc6be32ddc2879bffb77675a9d514a2346564bb1", func := "pennyfall/pennyfalllaw08.RingCounted", spec := "ringCounted", unfollowed := true, recurses := true, plainKeys := false, apart := false, narrowed := true }
def RingCountedUptoSaid : Prop := ringCountedUptoRow.holds Try.pinned (OpenSpec.upto ringCountedSpec)

/-- 'pennyfalllaw08.RingParted', WHERE WHAT IT READS IS OF BULK AT MOST 1048576: true; the input reads as it did. -/
def ringPartedUptoRow : OpenClaim := { program := "ytmcjoahnlbckoaa", sum := "53baaf6d83966ac035c148edfc6be32ddc2879bffb77675a9d514a2346564bb1", func := "pennyfall/pennyfalllaw08.RingParted", spec := "ringParted", unfollowed := true, recurses := true, plainKeys := false, apart := false, narrowed := true }
def RingPartedUptoSaid : Prop := ringPartedUptoRow.holds Try.pinned (OpenSpec.upto ringPartedSpec)

/-- 'pennyfalllaw08.RingMore', WHERE WHAT IT READS IS OF BULK AT MOST 1048576: true; the input reads as it did. -/
def ringMoreUptoRow : OpenClaim := { program := "ytmcjoahnlbckoaa", sum := "53baaf6d83966ac035c148edfc6be32ddc2879bffb77675a9d514a2346564bb1", func := "pennyfall/pennyfalllaw08.RingMore", spec := "ringMore", unfollowed := true, recurses := true, plainKeys := false, apart := false, narrowed := true }
def RingMoreUptoSaid : Prop := ringMoreUptoRow.holds Try.pinned (OpenSpec.upto ringMoreSpec)

/-- 'pennyfalllaw08.RingApart', WHERE WHAT IT READS IS OF BULK AT MOST 1048576: true; the input reads as it did. -/
def ringApartUptoRow : OpenClaim := { program := "ytmcjoahnlbckoaa", sum := "53baaf6d83966ac035c148edfc6be32ddc2879bffb77675a9d514a2346564bb1", func := "pennyfall/pennyfalllaw08.RingApart", spec := "ringApart", unfollowed := true, recurses := true, plainKeys := false, apart := false, narrowed := true }
def RingApartUptoSaid : Prop := ringApartUptoRow.holds Try.pinned (OpenSpec.upto ringApartSpec)

/-- 'pennyfalllaw08.RingStretched', WHERE WHAT IT READS IS OF BULK AT MOST 1048576: true; the input reads as it did. -/
def ringStretchedUptoRow : OpenClaim := { program := "ytmcjoahnlbckoaa", sum := "53baaf6d83966ac035c148edfc6be32ddc2879bffb77675a9d514a2346564bb1", func := "pennyfall/pennyfalllaw08.RingStretched", spec := "ringStretched", unfollowed := true, recurses := true, plainKeys := false, apart := false, narrowed := true }
def RingStretchedUptoSaid : Prop := ringStretchedUptoRow.holds Try.pinned (OpenSpec.upto ringStretchedSpec)

/-- 'pennyfalllaw08.RingKind', WHERE WHAT IT READS IS OF BULK AT MOST 1048576: true; the input reads as it did. -/
def ringKindUptoRow : OpenClaim := { program := "ytmcjoahnlbckoaa", sum := "53baaf6d83966ac035c148edfc6be32ddc2879bffb77675a9d514a2346564bb1", func := "pennyfall/pennyfalllaw08.RingKind", spec := "ringKind", unfollowed := true, recurses := true, plainKeys := false, apart := false, narrowed := true }
def RingKindUptoSaid : Prop := ringKindUptoRow.holds Try.pinned (OpenSpec.upto ringKindSpec)

/-- 'pennyfalllaw08.RingKnown', WHERE WHAT IT READS IS OF BULK AT MOST 1048576: true; the input reads as it did. -/
def ringKnownUptoRow : OpenClaim := { program := "ytmcjoahnlbckoaa", sum := "53baaf6d83966ac035c148edfc6be32ddc2879bffb77675a9d514a2346564bb1", func := "pennyfall/pennyfalllaw08.RingKnown", spec := "ringKnown", unfollowed := true, recurses := true, plainKeys := false, apart := false, narrowed := true }
def RingKnownUptoSaid : Prop := ringKnownUptoRow.holds Try.pinned (OpenSpec.upto ringKnownSpec)

end Rows
end Go.Proofs.Ytmcjoahnlbckoaa
