/-
  No cell of these rows narrows 'for every input' (looked for: loops, veiled, ifaces, maps, wideKeys, modest, calm, conditions, laid).
  DERIVED. THE GIVEN ROWS OF THIS SEAT. 12 by the template 'for every input the law returns true; each argument reads behind the call as it read before'; 0 by the template 'total and deterministic' (their statements: YtepcdjpenahnpaaTotals.lean).
  GIVEN WITH THE SEED: the statements are not yours to turn. If you find one false, say at which input.
  Laid BY PROGRAM, IN A SANDBOX (cutbox-rows.mjs): the forced cells as the released guide's own fill.sh prints them over the translation 024c7d0b431af225… (all of the seat's roots in one cut). By AI agents, Wed Nov 11 2026. No macro, syntax, notation, axiom, sorry.
-/
import Derived.Test.YtepcdjpenahnpaaChecked
import GoSem.Claim
import GoSem.ClaimJoined
import GoSem.ClaimMapViews
import Derived.JoinedTies
import Derived.KernelRfl
namespace Go.Proofs.Ytepcdjpenahnpaa
/- THE CELL 'sum', in the pinned program and in every row, IS THE sha256 OF THE DUMP (.gsa) THAT YtepcdjpenahnpaaProg.lean LOADS. Nothing in Lean hashes anything: it is a label: what it is worth is what the hold of that sum in a sandbox is worth. -/
noncomputable def Try.pinned : Pinned := { name := "ytepcdjpenahnpaa", sum := "024c7d0b431af225d1ad22b5fb250000fea8c2dd2a0fb987ef640ddf0bd74fe4", checked := Try.checked }
namespace Rows
def none {H : Type} : Left H := { results := [], args := [] }

/-- 'drawloomlaw21.RaceFind': WHATEVER THE INPUT: true; the input reads as it did. -/
def raceFindSpec : ChangeSpec := { name := "raceFind", fn := fun _ => fun
  | [d] => { results := [.lit (.bool true)], args := [d] }
  | _ => none }
def raceFindRow : OpenClaim := { program := "ytepcdjpenahnpaa", sum := "024c7d0b431af225d1ad22b5fb250000fea8c2dd2a0fb987ef640ddf0bd74fe4", func := "drawloom/drawloomlaw21.RaceFind", spec := "raceFind", unfollowed := true, recurses := true, plainKeys := false, apart := false }
def RaceFindSaid : Prop := raceFindRow.holds Try.pinned (OpenSpec.ofChange raceFindSpec)

/-- ITS FALSE NEIGHBOUR: 'it returns false'. Refute it at one input. -/
def raceFindWrong : ChangeSpec := { name := "raceFind", fn := fun _ => fun
  | [d] => { results := [.lit (.bool false)], args := [d] }
  | _ => none }
def RaceFindWrongFalsely : Prop := raceFindRow.holds Try.pinned (OpenSpec.ofChange raceFindWrong)

/-- 'drawloomlaw21.RacePrefix': WHATEVER THE INPUT: true; the input reads as it did. -/
def racePrefixSpec : ChangeSpec := { name := "racePrefix", fn := fun _ => fun
  | [d1, d2] => { results := [.lit (.bool true)], args := [d1, d2] }
  | _ => none }
def racePrefixRow : OpenClaim := { program := "ytepcdjpenahnpaa", sum := "024c7d0b431af225d1ad22b5fb250000fea8c2dd2a0fb987ef640ddf0bd74fe4", func := "drawloom/drawloomlaw21.RacePrefix", spec := "racePrefix", unfollowed := true, recurses := true, plainKeys := false, apart := false }
def RacePrefixSaid : Prop := racePrefixRow.holds Try.pinned (OpenSpec.ofChange racePrefixSpec)

/-- ITS FALSE NEIGHBOUR: 'it returns false'. Refute it at one input. -/
def racePrefixWrong : ChangeSpec := { name := "racePrefix", fn := fun _ => fun
  | [d1, d2] => { results := [.lit (.bool false)], args := [d1, d2] }
  | _ => none }
def RacePrefixWrongFalsely : Prop := racePrefixRow.holds Try.pinned (OpenSpec.ofChange racePrefixWrong)

/-- 'drawloomlaw21.RaceOrder': WHATEVER THE INPUT: true; the input reads as it did. -/
def raceOrderSpec : ChangeSpec := { name := "raceOrder", fn := fun _ => fun
  | [d1, d2] => { results := [.lit (.bool true)], args := [d1, d2] }
  | _ => none }
def raceOrderRow : OpenClaim := { program := "ytepcdjpenahnpaa", sum := "024c7d0b431af225d1ad22b5fb250000fea8c2dd2a0fb987ef640ddf0bd74fe4", func := "drawloom/drawloomlaw21.RaceOrder", spec := "raceOrder", unfollowed := true, recurses := true, plainKeys := false, apart := false }
def RaceOrderSaid : Prop := raceOrderRow.holds Try.pinned (OpenSpec.ofChange raceOrderSpec)

/-- ITS FALSE NEIGHBOUR: 'it returns false'. Refute it at one input. -/
def raceOrderWrong : ChangeSpec := { name := "raceOrder", fn := fun _ => fun
  | [d1, d2] => { results := [.lit (.bool false)], args := [d1, d2] }
  | _ => none }
def RaceOrderWrongFalsely : Prop := raceOrderRow.holds Try.pinned (OpenSpec.ofChange raceOrderWrong)

/-- 'drawloomlaw21.RaceWitness': WHATEVER THE INPUT: true; the input reads as it did. -/
def raceWitnessSpec : ChangeSpec := { name := "raceWitness", fn := fun _ => fun
  | [d1, d2] => { results := [.lit (.bool true)], args := [d1, d2] }
  | _ => none }
def raceWitnessRow : OpenClaim := { program := "ytepcdjpenahnpaa", sum := "024c7d0b431af225d1ad22b5fb250000fea8c2dd2a0fb987ef640ddf0bd74fe4", func := "drawloom/drawloomlaw21.RaceWitness", spec := "raceWitness", unfollowed := true, recurses := true, plainKeys := false, apart := false }
def RaceWitnessSaid : Prop := raceWitnessRow.holds Try.pinned (OpenSpec.ofChange raceWitnessSpec)

/-- ITS FALSE NEIGHBOUR: 'it returns false'. Refute it at one input. -/
def raceWitnessWrong : ChangeSpec := { name := "raceWitness", fn := fun _ => fun
  | [d1, d2] => { results := [.lit (.bool false)], args := [d1, d2] }
  | _ => none }
def RaceWitnessWrongFalsely : Prop := raceWitnessRow.holds Try.pinned (OpenSpec.ofChange raceWitnessWrong)

/-- 'drawloomlaw21.RacePairs': WHATEVER THE INPUT: true; the input reads as it did. -/
def racePairsSpec : ChangeSpec := { name := "racePairs", fn := fun _ => fun
  | [d] => { results := [.lit (.bool true)], args := [d] }
  | _ => none }
def racePairsRow : OpenClaim := { program := "ytepcdjpenahnpaa", sum := "024c7d0b431af225d1ad22b5fb250000fea8c2dd2a0fb987ef640ddf0bd74fe4", func := "drawloom/drawloomlaw21.RacePairs", spec := "racePairs", unfollowed := true, recurses := true, plainKeys := false, apart := false }
def RacePairsSaid : Prop := racePairsRow.holds Try.pinned (OpenSpec.ofChange racePairsSpec)

/-- ITS FALSE NEIGHBOUR: 'it returns false'. Refute it at one input. -/
def racePairsWrong : ChangeSpec := { name := "racePairs", fn := fun _ => fun
  | [d] => { results := [.lit (.bool false)], args := [d] }
  | _ => none }
def RacePairsWrongFalsely : Prop := racePairsRow.holds Try.pinned (OpenSpec.ofChange racePairsWrong)

/-- 'drawloomlaw22.ImageLeast': WHATEVER THE INPUT: true; the input reads as it did. -/
def imageLeastSpec : ChangeSpec := { name := "imageLeast", fn := fun _ => fun
  | [d1, d2] => { results := [.lit (.bool true)], args := [d1, d2] }
  | _ => none }
def imageLeastRow : OpenClaim := { program := "ytepcdjpenahnpaa", sum := "024c7d0b431af225d1ad22b5fb250000fea8c2dd2a0fb987ef640ddf0bd74fe4", func := "drawloom/drawloomlaw22.ImageLeast", spec := "imageLeast", recurses := true, plainKeys := false, apart := false }
def ImageLeastSaid : Prop := imageLeastRow.holds Try.pinned (OpenSpec.ofChange imageLeastSpec)

/-- ITS FALSE NEIGHBOUR: 'it returns false'. Refute it at one input. -/
def imageLeastWrong : ChangeSpec := { name := "imageLeast", fn := fun _ => fun
  | [d1, d2] => { results := [.lit (.bool false)], args := [d1, d2] }
  | _ => none }
def ImageLeastWrongFalsely : Prop := imageLeastRow.holds Try.pinned (OpenSpec.ofChange imageLeastWrong)

/-- 'drawloomlaw22.ImageBest': WHATEVER THE INPUT: true; the input reads as it did. -/
def imageBestSpec : ChangeSpec := { name := "imageBest", fn := fun _ => fun
  | [d1, d2] => { results := [.lit (.bool true)], args := [d1, d2] }
  | _ => none }
def imageBestRow : OpenClaim := { program := "ytepcdjpenahnpaa", sum := "024c7d0b431af225d1ad22b5fb250000fea8c2dd2a0fb987ef640ddf0bd74fe4", func := "drawloom/drawloomlaw22.ImageBest", spec := "imageBest", plainKeys := false, apart := false }
def ImageBestSaid : Prop := imageBestRow.holds Try.pinned (OpenSpec.ofChange imageBestSpec)

/-- ITS FALSE NEIGHBOUR: 'it returns false'. Refute it at one input. -/
def imageBestWrong : ChangeSpec := { name := "imageBest", fn := fun _ => fun
  | [d1, d2] => { results := [.lit (.bool false)], args := [d1, d2] }
  | _ => none }
def ImageBestWrongFalsely : Prop := imageBestRow.holds Try.pinned (OpenSpec.ofChange imageBestWrong)

/-- 'drawloomlaw22.ImageTrace': WHATEVER THE INPUT: true; the input reads as it did. -/
def imageTraceSpec : ChangeSpec := { name := "imageTrace", fn := fun _ => fun
  | [d] => { results := [.lit (.bool true)], args := [d] }
  | _ => none }
def imageTraceRow : OpenClaim := { program := "ytepcdjpenahnpaa", sum := "024c7d0b431af225d1ad22b5fb250000fea8c2dd2a0fb987ef640ddf0bd74fe4", func := "drawloom/drawloomlaw22.ImageTrace", spec := "imageTrace", plainKeys := false, apart := false }
def ImageTraceSaid : Prop := imageTraceRow.holds Try.pinned (OpenSpec.ofChange imageTraceSpec)

/-- ITS FALSE NEIGHBOUR: 'it returns false'. Refute it at one input. -/
def imageTraceWrong : ChangeSpec := { name := "imageTrace", fn := fun _ => fun
  | [d] => { results := [.lit (.bool false)], args := [d] }
  | _ => none }
def ImageTraceWrongFalsely : Prop := imageTraceRow.holds Try.pinned (OpenSpec.ofChange imageTraceWrong)

/-- 'drawloomlaw21.RaceGroups': WHATEVER THE INPUT: true; the input reads as it did. -/
def raceGroupsSpec : ChangeSpec := { name := "raceGroups", fn := fun _ => fun
  | [d] => { results := [.lit (.bool true)], args := [d] }
  | _ => none }
def raceGroupsRow : OpenClaim := { program := "ytepcdjpenahnpaa", sum := "024c7d0b431af225d1ad22b5fb250000fea8c2dd2a0fb987ef640ddf0bd74fe4", func := "drawloom/drawloomlaw21.RaceGroups", spec := "raceGroups", unfollowed := true, recurses := true, plainKeys := false, apart := false }
def RaceGroupsSaid : Prop := raceGroupsRow.holds Try.pinned (OpenSpec.ofChange raceGroupsSpec)

/-- ITS FALSE NEIGHBOUR: 'it returns false'. Refute it at one input. -/
def raceGroupsWrong : ChangeSpec := { name := "raceGroups", fn := fun _ => fun
  | [d] => { results := [.lit (.bool false)], args := [d] }
  | _ => none }
def RaceGroupsWrongFalsely : Prop := raceGroupsRow.holds Try.pinned (OpenSpec.ofChange raceGroupsWrong)

/-- 'drawloomlaw22.ImageNone': WHATEVER THE INPUT: true; the input reads as it did. -/
def imageNoneSpec : ChangeSpec := { name := "imageNone", fn := fun _ => fun
  | [d] => { results := [.lit (.bool true)], args := [d] }
  | _ => none }
def imageNoneRow : OpenClaim := { program := "ytepcdjpenahnpaa", sum := "024c7d0b431af225d1ad22b5fb250000fea8c2dd2a0fb987ef640ddf0bd74fe4", func := "drawloom/drawloomlaw22.ImageNone", spec := "imageNone", unfollowed := true, recurses := true, plainKeys := false, apart := false }
def ImageNoneSaid : Prop := imageNoneRow.holds Try.pinned (OpenSpec.ofChange imageNoneSpec)

/-- ITS FALSE NEIGHBOUR: 'it returns false'. Refute it at one input. -/
def imageNoneWrong : ChangeSpec := { name := "imageNone", fn := fun _ => fun
  | [d] => { results := [.lit (.bool false)], args := [d] }
  | _ => none }
def ImageNoneWrongFalsely : Prop := imageNoneRow.holds Try.pinned (OpenSpec.ofChange imageNoneWrong)

/-- 'drawloomlaw22.ImageFaults': WHATEVER THE INPUT: true; the input reads as it did. -/
def imageFaultsSpec : ChangeSpec := { name := "imageFaults", fn := fun _ => fun
  | [d1, d2] => { results := [.lit (.bool true)], args := [d1, d2] }
  | _ => none }
def imageFaultsRow : OpenClaim := { program := "ytepcdjpenahnpaa", sum := "024c7d0b431af225d1ad22b5fb250000fea8c2dd2a0fb987ef640ddf0bd74fe4", func := "drawloom/drawloomlaw22.ImageFaults", spec := "imageFaults", recurses := true, plainKeys := false, apart := false }
def ImageFaultsSaid : Prop := imageFaultsRow.holds Try.pinned (OpenSpec.ofChange imageFaultsSpec)

/-- ITS FALSE NEIGHBOUR: 'it returns false'. Refute it at one input. -/
def imageFaultsWrong : ChangeSpec := { name := "imageFaults", fn := fun _ => fun
  | [d1, d2] => { results := [.lit (.bool false)], args := [d1, d2] }
  | _ => none }
def ImageFaultsWrongFalsely : Prop := imageFaultsRow.holds Try.pinned (OpenSpec.ofChange imageFaultsWrong)

/-- 'drawloomlaw22.ImageFrames': WHATEVER THE INPUT: true; the input reads as it did. -/
def imageFramesSpec : ChangeSpec := { name := "imageFrames", fn := fun _ => fun
  | [d1, d2, d3] => { results := [.lit (.bool true)], args := [d1, d2, d3] }
  | _ => none }
def imageFramesRow : OpenClaim := { program := "ytepcdjpenahnpaa", sum := "024c7d0b431af225d1ad22b5fb250000fea8c2dd2a0fb987ef640ddf0bd74fe4", func := "drawloom/drawloomlaw22.ImageFrames", spec := "imageFrames", recurses := true, plainKeys := false, apart := false }
def ImageFramesSaid : Prop := imageFramesRow.holds Try.pinned (OpenSpec.ofChange imageFramesSpec)

/-- ITS FALSE NEIGHBOUR: 'it returns false'. Refute it at one input. -/
def imageFramesWrong : ChangeSpec := { name := "imageFrames", fn := fun _ => fun
  | [d1, d2, d3] => { results := [.lit (.bool false)], args := [d1, d2, d3] }
  | _ => none }
def ImageFramesWrongFalsely : Prop := imageFramesRow.holds Try.pinned (OpenSpec.ofChange imageFramesWrong)

/- THE SECOND FORM. 'bulk': how many values and letters a reading holds, each counted each time it is reached (what is shared counts as often as it is met; a slice's spare places count too). A statement '..UptoSaid' is the law's where the arguments, and the package variables that the reading takes, are together of bulk at most 1048576: NARROWER than '..Said'. Prove '..Said' where nothing that the law and all that it calls make is longer than what came in: it says more and counts as full. Else prove '..UptoSaid'. A law counts once. -/
mutual
def uptoBulk {H : Type} : DataW H → Nat
  | .lit (.string bytes) => bytes.length + 1
  | .lit _ => 1
  | .nil => 1
  | .ptr d => uptoBulk d + 1
  | .slice elems spare => uptoBulkAll elems + uptoBulkAll spare + 1
  | .agg parts => uptoBulkAll parts + 1
  | .iface _ d => uptoBulk d + 1
  | .map entries => uptoBulkEntries entries + 1
  | .held _ => 1
def uptoBulkAll {H : Type} : List (DataW H) → Nat
  | [] => 0
  | d :: r => uptoBulk d + uptoBulkAll r
def uptoBulkEntries {H : Type} : List (Lit × DataW H) → Nat
  | [] => 0
  | x :: r => uptoBulkEntry x + uptoBulkEntries r
def uptoBulkEntry {H : Type} : Lit × DataW H → Nat
  | (.string bytes, d) => bytes.length + uptoBulk d + 1
  | (_, d) => uptoBulk d + 1
 end
def uptoSmall : (H : Type) → List (DataW H) → Bool := fun _ ds => decide (uptoBulkAll ds ≤ 1048576)
def OpenSpec.upto (s : _root_.Go.ChangeSpec) : _root_.Go.OpenSpec := { _root_.Go.OpenSpec.ofChange s with cond := some uptoSmall }

/-- 'drawloomlaw21.RaceFind', WHERE WHAT IT READS IS OF BULK AT MOST 1048576: true; the input reads as it did. -/
def raceFindUptoRow : OpenClaim := { program := "ytepcdjpenahnpaa", sum := "024c7d0b431af225d1ad22b5fb250000fea8c2dd2a0fb987ef640ddf0bd74fe4", func := "drawloom/drawloomlaw21.RaceFind", spec := "raceFind", unfollowed := true, recurses := true, plainKeys := false, apart := false, narrowed := true }
def RaceFindUptoSaid : Prop := raceFindUptoRow.holds Try.pinned (OpenSpec.upto raceFindSpec)

/-- 'drawloomlaw21.RacePrefix', WHERE WHAT IT READS IS OF BULK AT MOST 1048576: true; the input reads as it did. -/
def racePrefixUptoRow : OpenClaim := { program := "ytepcdjpenahnpaa", sum := "024c7d0b431af225d1ad22b5fb250000fea8c2dd2a0fb987ef640ddf0bd74fe4", func := "drawloom/drawloomlaw21.RacePrefix", spec := "racePrefix", unfollowed := true, recurses := true, plainKeys := false, apart := false, narrowed := true }
def RacePrefixUptoSaid : Prop := racePrefixUptoRow.holds Try.pinned (OpenSpec.upto racePrefixSpec)

/-- 'drawloomlaw21.RaceOrder', WHERE WHAT IT READS IS OF BULK AT MOST 1048576: true; the input reads as it did. -/
def raceOrderUptoRow : OpenClaim := { program := "ytepcdjpenahnpaa", sum := "024c7d0b431af225d1ad22b5fb250000fea8c2dd2a0fb987ef640ddf0bd74fe4", func := "drawloom/drawloomlaw21.RaceOrder", spec := "raceOrder", unfollowed := true, recurses := true, plainKeys := false, apart := false, narrowed := true }
def RaceOrderUptoSaid : Prop := raceOrderUptoRow.holds Try.pinned (OpenSpec.upto raceOrderSpec)

/-- 'drawloomlaw21.RaceWitness', WHERE WHAT IT READS IS OF BULK AT MOST 1048576: true; the input reads as it did. -/
def raceWitnessUptoRow : OpenClaim := { program := "ytepcdjpenahnpaa", sum := "024c7d0b431af225d1ad22b5fb250000fea8c2dd2a0fb987ef640ddf0bd74fe4", func := "drawloom/drawloomlaw21.RaceWitness", spec := "raceWitness", unfollowed := true, recurses := true, plainKeys := false, apart := false, narrowed := true }
def RaceWitnessUptoSaid : Prop := raceWitnessUptoRow.holds Try.pinned (OpenSpec.upto raceWitnessSpec)

/-- 'drawloomlaw21.RacePairs', WHERE WHAT IT READS IS OF BULK AT MOST 1048576: true; the input reads as it did. -/
def racePairsUptoRow : OpenClaim := { program := "ytepcdjpenahnpaa", sum := "024c7d0b431af225d1ad22b5fb250000fea8c2dd2a0fb987ef640ddf0bd74fe4", func := "drawloom/drawloomlaw21.RacePairs", spec := "racePairs", unfollowed := true, recurses := true, plainKeys := false, apart := false, narrowed := true }
def RacePairsUptoSaid : Prop := racePairsUptoRow.holds Try.pinned (OpenSpec.upto racePairsSpec)

/-- 'drawloomlaw22.ImageLeast', WHERE WHAT IT READS IS OF BULK AT MOST 1048576: true; the input reads as it did. -/
def imageLeastUptoRow : OpenClaim := { program := "ytepcdjpenahnpaa", sum := "024c7d0b431af225d1ad22b5fb250000fea8c2dd2a0fb987ef640ddf0bd74fe4", func := "drawloom/drawloomlaw22.ImageLeast", spec := "imageLeast", recurses := true, plainKeys := false, apart := false, narrowed := true }
def ImageLeastUptoSaid : Prop := imageLeastUptoRow.holds Try.pinned (OpenSpec.upto imageLeastSpec)

/-- 'drawloomlaw22.ImageBest', WHERE WHAT IT READS IS OF BULK AT MOST 1048576: true; the input reads as it did. -/
def imageBestUptoRow : OpenClaim := { program := "ytepcdjpenahnpaa", sum := "024c7d0b431af225d1ad22b5fb250000fea8c2dd2a0fb987ef640ddf0bd74fe4", func := "drawloom/drawloomlaw22.ImageBest", spec := "imageBest", plainKeys := false, apart := false, narrowed := true }
def ImageBestUptoSaid : Prop := imageBestUptoRow.holds Try.pinned (OpenSpec.upto imageBestSpec)

/-- 'drawloomlaw22.ImageTrace', WHERE WHAT IT READS IS OF BULK AT MOST 1048576: true; the input reads as it did. -/
def imageTraceUptoRow : OpenClaim := { program := "ytepcdjpenahnpaa", sum := "024c7d0b431af225d1ad22b5fb250000fea8c2dd2a0fb987ef640ddf0bd74fe4", func := "drawloom/drawloomlaw22.ImageTrace", spec := "imageTrace", plainKeys := false, apart := false, narrowed := true }
def ImageTraceUptoSaid : Prop := imageTraceUptoRow.holds Try.pinned (OpenSpec.upto imageTraceSpec)

/-- 'drawloomlaw21.RaceGroups', WHERE WHAT IT READS IS OF BULK AT MOST 1048576: true; the input reads as it did. -/
def raceGroupsUptoRow : OpenClaim := { program := "ytepcdjpenahnpaa", sum := "024c7d0b431af225d1ad22b5fb250000fea8c2dd2a0fb987ef640ddf0bd74fe4", func := "drawloom/drawloomlaw21.RaceGroups", spec := "raceGroups", unfollowed := true, recurses := true, plainKeys := false, apart := false, narrowed := true }
def RaceGroupsUptoSaid : Prop := raceGroupsUptoRow.holds Try.pinned (OpenSpec.upto raceGroupsSpec)

/-- 'drawloomlaw22.ImageNone', WHERE WHAT IT READS IS OF BULK AT MOST 1048576: true; the input reads as it did. -/
def imageNoneUptoRow : OpenClaim := { program := "ytepcdjpenahnpaa", sum := "024c7d0b431af225d1ad22b5fb250000fea8c2dd2a0fb987ef640ddf0bd74fe4", func := "drawloom/drawloomlaw22.ImageNone", spec := "imageNone", unfollowed := true, recurses := true, plainKeys := false, apart := false, narrowed := true }
def ImageNoneUptoSaid : Prop := imageNoneUptoRow.holds Try.pinned (OpenSpec.upto imageNoneSpec)

/-- 'drawloomlaw22.ImageFaults', WHERE WHAT IT READS IS OF BULK AT MOST 1048576: true; the input reads as it did. -/
def imageFaultsUptoRow : OpenClaim := { program := "ytepcdjpenahnpaa", sum := "024c7d0b431af225d1ad22b5fb250000fea8c2dd2a0fb987ef640ddf0bd74fe4", func := "drawloom/drawloomlaw22.ImageFaults", spec := "imageFaults", recurses := true, plainKeys := false, apart := false, narrowed := true }
def ImageFaultsUptoSaid : Prop := imageFaultsUptoRow.holds Try.pinned (OpenSpec.upto imageFaultsSpec)

/-- 'drawloomlaw22.ImageFrames', WHERE WHAT IT READS IS OF BULK AT MOST 1048576: true; the input reads as it did. -/
def imageFramesUptoRow : OpenClaim := { program := "ytepcdjpenahnpaa", sum := "024c7d0b431af225d1ad22b5fb250000fea8c2dd2a0fb987ef640ddf0bd74fe4", func := "drawloom/drawloomlaw22.ImageFrames", spec := "imageFrames", recurses := true, plainKeys := false, apart := false, narrowed := true }
def ImageFramesUptoSaid : Prop := imageFramesUptoRow.holds Try.pinned (OpenSpec.upto imageFramesSpec)

end Rows
end Go.Proofs.Ytepcdjpenahnpaa
