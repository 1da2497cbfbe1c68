/-
  No cell of these rows narrows 'for every input' (looked for: loops, veiled, ifaces, maps, wideKeys, modest, calm, conditions, laid).
  DERIVED. THE GIVEN ROWS OF THIS SEAT. 12 by the template 'for every input the law returns true; each argument reads behind the call as it read before'; 0 by the template 'total and deterministic' (their statements: YtcnlbbmokphjnaaTotals.lean).
  GIVEN WITH THE SEED: the statements are not yours to turn. If you find one false, say at which input.
  Laid BY PROGRAM, IN A SANDBOX (cutbox-rows.mjs): the forced cells as the released guide's own fill.sh prints them over the translation 95acbf241031df3b… (all of the seat's roots in one cut). By AI agents, Wed Nov 11 2026. No macro, syntax, notation, axiom, sorry.
-/
import Derived.Test.YtcnlbbmokphjnaaChecked
import GoSem.Claim
import GoSem.ClaimJoined
import GoSem.ClaimMapViews
import Derived.JoinedTies
import Derived.KernelRfl
namespace Go.Proofs.Ytcnlbbmokphjnaa
/- THE CELL 'sum', in the pinned program and in every row, IS THE sha256 OF THE DUMP (.gsa) THAT YtcnlbbmokphjnaaProg.lean LOADS. Nothing in Lean hashes anything: it is a label: what it is worth is what the hold of that sum in a sandbox is worth. -/
noncomputable def Try.pinned : Pinned := { name := "ytcnlbbmokphjnaa", sum := "95acbf241031df3bfdaf5c0e4d0e2e4128d508cff77265e34d53b127d7c28d3d", checked := Try.checked }
namespace Rows
def none {H : Type} : Left H := { results := [], args := [] }

/-- 'walkmilllaw02.StreamGoes': WHATEVER THE INPUT: true; the input reads as it did. -/
def streamGoesSpec : ChangeSpec := { name := "streamGoes", fn := fun _ => fun
  | [d1, d2, d3] => { results := [.lit (.bool true)], args := [d1, d2, d3] }
  | _ => none }
def streamGoesRow : OpenClaim := { program := "ytcnlbbmokphjnaa", sum := "95acbf241031df3bfdaf5c0e4d0e2e4128d508cff77265e34d53b127d7c28d3d", func := "walkmill/walkmilllaw02.StreamGoes", spec := "streamGoes", unfollowed := true, recurses := true, plainKeys := false, apart := false }
def StreamGoesSaid : Prop := streamGoesRow.holds Try.pinned (OpenSpec.ofChange streamGoesSpec)

/-- ITS FALSE NEIGHBOUR: 'it returns false'. Refute it at one input. -/
def streamGoesWrong : ChangeSpec := { name := "streamGoes", fn := fun _ => fun
  | [d1, d2, d3] => { results := [.lit (.bool false)], args := [d1, d2, d3] }
  | _ => none }
def StreamGoesWrongFalsely : Prop := streamGoesRow.holds Try.pinned (OpenSpec.ofChange streamGoesWrong)

/-- 'walkmilllaw02.StreamBlows': WHATEVER THE INPUT: true; the input reads as it did. -/
def streamBlowsSpec : ChangeSpec := { name := "streamBlows", fn := fun _ => fun
  | [d1, d2] => { results := [.lit (.bool true)], args := [d1, d2] }
  | _ => none }
def streamBlowsRow : OpenClaim := { program := "ytcnlbbmokphjnaa", sum := "95acbf241031df3bfdaf5c0e4d0e2e4128d508cff77265e34d53b127d7c28d3d", func := "walkmill/walkmilllaw02.StreamBlows", spec := "streamBlows", unfollowed := true, recurses := true, plainKeys := false, apart := false }
def StreamBlowsSaid : Prop := streamBlowsRow.holds Try.pinned (OpenSpec.ofChange streamBlowsSpec)

/-- ITS FALSE NEIGHBOUR: 'it returns false'. Refute it at one input. -/
def streamBlowsWrong : ChangeSpec := { name := "streamBlows", fn := fun _ => fun
  | [d1, d2] => { results := [.lit (.bool false)], args := [d1, d2] }
  | _ => none }
def StreamBlowsWrongFalsely : Prop := streamBlowsRow.holds Try.pinned (OpenSpec.ofChange streamBlowsWrong)

/-- 'walkmilllaw02.StreamMosts': WHATEVER THE INPUT: true; the input reads as it did. -/
def streamMostsSpec : ChangeSpec := { name := "streamMosts", fn := fun _ => fun
  | [d1, d2, d3] => { results := [.lit (.bool true)], args := [d1, d2, d3] }
  | _ => none }
def streamMostsRow : OpenClaim := { program := "ytcnlbbmokphjnaa", sum := "95acbf241031df3bfdaf5c0e4d0e2e4128d508cff77265e34d53b127d7c28d3d", func := "walkmill/walkmilllaw02.StreamMosts", spec := "streamMosts", unfollowed := true, recurses := true, plainKeys := false, apart := false }
def StreamMostsSaid : Prop := streamMostsRow.holds Try.pinned (OpenSpec.ofChange streamMostsSpec)

/-- ITS FALSE NEIGHBOUR: 'it returns false'. Refute it at one input. -/
def streamMostsWrong : ChangeSpec := { name := "streamMosts", fn := fun _ => fun
  | [d1, d2, d3] => { results := [.lit (.bool false)], args := [d1, d2, d3] }
  | _ => none }
def StreamMostsWrongFalsely : Prop := streamMostsRow.holds Try.pinned (OpenSpec.ofChange streamMostsWrong)

/-- 'walkmilllaw02.StreamLasts': WHATEVER THE INPUT: true; the input reads as it did. -/
def streamLastsSpec : ChangeSpec := { name := "streamLasts", fn := fun _ => fun
  | [d1, d2, d3] => { results := [.lit (.bool true)], args := [d1, d2, d3] }
  | _ => none }
def streamLastsRow : OpenClaim := { program := "ytcnlbbmokphjnaa", sum := "95acbf241031df3bfdaf5c0e4d0e2e4128d508cff77265e34d53b127d7c28d3d", func := "walkmill/walkmilllaw02.StreamLasts", spec := "streamLasts", unfollowed := true, recurses := true, plainKeys := false, apart := false }
def StreamLastsSaid : Prop := streamLastsRow.holds Try.pinned (OpenSpec.ofChange streamLastsSpec)

/-- ITS FALSE NEIGHBOUR: 'it returns false'. Refute it at one input. -/
def streamLastsWrong : ChangeSpec := { name := "streamLasts", fn := fun _ => fun
  | [d1, d2, d3] => { results := [.lit (.bool false)], args := [d1, d2, d3] }
  | _ => none }
def StreamLastsWrongFalsely : Prop := streamLastsRow.holds Try.pinned (OpenSpec.ofChange streamLastsWrong)

/-- 'walkmilllaw02.StreamWindows': WHATEVER THE INPUT: true; the input reads as it did. -/
def streamWindowsSpec : ChangeSpec := { name := "streamWindows", fn := fun _ => fun
  | [d1, d2, d3] => { results := [.lit (.bool true)], args := [d1, d2, d3] }
  | _ => none }
def streamWindowsRow : OpenClaim := { program := "ytcnlbbmokphjnaa", sum := "95acbf241031df3bfdaf5c0e4d0e2e4128d508cff77265e34d53b127d7c28d3d", func := "walkmill/walkmilllaw02.StreamWindows", spec := "streamWindows", unfollowed := true, recurses := true, plainKeys := false, apart := false }
def StreamWindowsSaid : Prop := streamWindowsRow.holds Try.pinned (OpenSpec.ofChange streamWindowsSpec)

/-- ITS FALSE NEIGHBOUR: 'it returns false'. Refute it at one input. -/
def streamWindowsWrong : ChangeSpec := { name := "streamWindows", fn := fun _ => fun
  | [d1, d2, d3] => { results := [.lit (.bool false)], args := [d1, d2, d3] }
  | _ => none }
def StreamWindowsWrongFalsely : Prop := streamWindowsRow.holds Try.pinned (OpenSpec.ofChange streamWindowsWrong)

/-- 'walkmilllaw02.StreamUpstreams': WHATEVER THE INPUT: true; the input reads as it did. -/
def streamUpstreamsSpec : ChangeSpec := { name := "streamUpstreams", fn := fun _ => fun
  | [d1, d2, d3] => { results := [.lit (.bool true)], args := [d1, d2, d3] }
  | _ => none }
def streamUpstreamsRow : OpenClaim := { program := "ytcnlbbmokphjnaa", sum := "95acbf241031df3bfdaf5c0e4d0e2e4128d508cff77265e34d53b127d7c28d3d", func := "walkmill/walkmilllaw02.StreamUpstreams", spec := "streamUpstreams", unfollowed := true, recurses := true, plainKeys := false, apart := false }
def StreamUpstreamsSaid : Prop := streamUpstreamsRow.holds Try.pinned (OpenSpec.ofChange streamUpstreamsSpec)

/-- ITS FALSE NEIGHBOUR: 'it returns false'. Refute it at one input. -/
def streamUpstreamsWrong : ChangeSpec := { name := "streamUpstreams", fn := fun _ => fun
  | [d1, d2, d3] => { results := [.lit (.bool false)], args := [d1, d2, d3] }
  | _ => none }
def StreamUpstreamsWrongFalsely : Prop := streamUpstreamsRow.holds Try.pinned (OpenSpec.ofChange streamUpstreamsWrong)

/-- 'walkmilllaw02.StreamStops': WHATEVER THE INPUT: true; the input reads as it did. -/
def streamStopsSpec : ChangeSpec := { name := "streamStops", fn := fun _ => fun
  | [d1, d2, d3] => { results := [.lit (.bool true)], args := [d1, d2, d3] }
  | _ => none }
def streamStopsRow : OpenClaim := { program := "ytcnlbbmokphjnaa", sum := "95acbf241031df3bfdaf5c0e4d0e2e4128d508cff77265e34d53b127d7c28d3d", func := "walkmill/walkmilllaw02.StreamStops", spec := "streamStops", unfollowed := true, recurses := true, plainKeys := false, apart := false }
def StreamStopsSaid : Prop := streamStopsRow.holds Try.pinned (OpenSpec.ofChange streamStopsSpec)

/-- ITS FALSE NEIGHBOUR: 'it returns false'. Refute it at one input. -/
def streamStopsWrong : ChangeSpec := { name := "streamStops", fn := fun _ => fun
  | [d1, d2, d3] => { results := [.lit (.bool false)], args := [d1, d2, d3] }
  | _ => none }
def StreamStopsWrongFalsely : Prop := streamStopsRow.holds Try.pinned (OpenSpec.ofChange streamStopsWrong)

/-- 'walkmilllaw02.StreamTruth': WHATEVER THE INPUT: true; the input reads as it did. -/
def streamTruthSpec : ChangeSpec := { name := "streamTruth", fn := fun _ => fun
  | [d1, d2, d3] => { results := [.lit (.bool true)], args := [d1, d2, d3] }
  | _ => none }
def streamTruthRow : OpenClaim := { program := "ytcnlbbmokphjnaa", sum := "95acbf241031df3bfdaf5c0e4d0e2e4128d508cff77265e34d53b127d7c28d3d", func := "walkmill/walkmilllaw02.StreamTruth", spec := "streamTruth", unfollowed := true, recurses := true, plainKeys := false, apart := false }
def StreamTruthSaid : Prop := streamTruthRow.holds Try.pinned (OpenSpec.ofChange streamTruthSpec)

/-- ITS FALSE NEIGHBOUR: 'it returns false'. Refute it at one input. -/
def streamTruthWrong : ChangeSpec := { name := "streamTruth", fn := fun _ => fun
  | [d1, d2, d3] => { results := [.lit (.bool false)], args := [d1, d2, d3] }
  | _ => none }
def StreamTruthWrongFalsely : Prop := streamTruthRow.holds Try.pinned (OpenSpec.ofChange streamTruthWrong)

/-- 'walkmilllaw02.StreamMore': WHATEVER THE INPUT: true; the input reads as it did. -/
def streamMoreSpec : ChangeSpec := { name := "streamMore", fn := fun _ => fun
  | [d1, d2, d3] => { results := [.lit (.bool true)], args := [d1, d2, d3] }
  | _ => none }
def streamMoreRow : OpenClaim := { program := "ytcnlbbmokphjnaa", sum := "95acbf241031df3bfdaf5c0e4d0e2e4128d508cff77265e34d53b127d7c28d3d", func := "walkmill/walkmilllaw02.StreamMore", spec := "streamMore", unfollowed := true, recurses := true, plainKeys := false, apart := false }
def StreamMoreSaid : Prop := streamMoreRow.holds Try.pinned (OpenSpec.ofChange streamMoreSpec)

/-- ITS FALSE NEIGHBOUR: 'it returns false'. Refute it at one input. -/
def streamMoreWrong : ChangeSpec := { name := "streamMore", fn := fun _ => fun
  | [d1, d2, d3] => { results := [.lit (.bool false)], args := [d1, d2, d3] }
  | _ => none }
def StreamMoreWrongFalsely : Prop := streamMoreRow.holds Try.pinned (OpenSpec.ofChange streamMoreWrong)

/-- 'walkmilllaw02.StreamLong': WHATEVER THE INPUT: true; the input reads as it did. -/
def streamLongSpec : ChangeSpec := { name := "streamLong", fn := fun _ => fun
  | [d1, d2, d3] => { results := [.lit (.bool true)], args := [d1, d2, d3] }
  | _ => none }
def streamLongRow : OpenClaim := { program := "ytcnlbbmokphjnaa", sum := "95acbf241031df3bfdaf5c0e4d0e2e4128d508cff77265e34d53b127d7c28d3d", func := "walkmill/walkmilllaw02.StreamLong", spec := "streamLong", unfollowed := true, recurses := true, plainKeys := false, apart := false }
def StreamLongSaid : Prop := streamLongRow.holds Try.pinned (OpenSpec.ofChange streamLongSpec)

/-- ITS FALSE NEIGHBOUR: 'it returns false'. Refute it at one input. -/
def streamLongWrong : ChangeSpec := { name := "streamLong", fn := fun _ => fun
  | [d1, d2, d3] => { results := [.lit (.bool false)], args := [d1, d2, d3] }
  | _ => none }
def StreamLongWrongFalsely : Prop := streamLongRow.holds Try.pinned (OpenSpec.ofChange streamLongWrong)

/-- 'walkmilllaw02.StreamStopped': WHATEVER THE INPUT: true; the input reads as it did. -/
def streamStoppedSpec : ChangeSpec := { name := "streamStopped", fn := fun _ => fun
  | [d1, d2, d3] => { results := [.lit (.bool true)], args := [d1, d2, d3] }
  | _ => none }
def streamStoppedRow : OpenClaim := { program := "ytcnlbbmokphjnaa", sum := "95acbf241031df3bfdaf5c0e4d0e2e4128d508cff77265e34d53b127d7c28d3d", func := "walkmill/walkmilllaw02.StreamStopped", spec := "streamStopped", unfollowed := true, recurses := true, plainKeys := false, apart := false }
def StreamStoppedSaid : Prop := streamStoppedRow.holds Try.pinned (OpenSpec.ofChange streamStoppedSpec)

/-- ITS FALSE NEIGHBOUR: 'it returns false'. Refute it at one input. -/
def streamStoppedWrong : ChangeSpec := { name := "streamStopped", fn := fun _ => fun
  | [d1, d2, d3] => { results := [.lit (.bool false)], args := [d1, d2, d3] }
  | _ => none }
def StreamStoppedWrongFalsely : Prop := streamStoppedRow.holds Try.pinned (OpenSpec.ofChange streamStoppedWrong)

/-- 'walkmilllaw02.StreamHelped': WHATEVER THE INPUT: true; the input reads as it did. -/
def streamHelpedSpec : ChangeSpec := { name := "streamHelped", fn := fun _ => fun
  | [d1, d2, d3] => { results := [.lit (.bool true)], args := [d1, d2, d3] }
  | _ => none }
def streamHelpedRow : OpenClaim := { program := "ytcnlbbmokphjnaa", sum := "95acbf241031df3bfdaf5c0e4d0e2e4128d508cff77265e34d53b127d7c28d3d", func := "walkmill/walkmilllaw02.StreamHelped", spec := "streamHelped", unfollowed := true, recurses := true, plainKeys := false, apart := false }
def StreamHelpedSaid : Prop := streamHelpedRow.holds Try.pinned (OpenSpec.ofChange streamHelpedSpec)

/-- ITS FALSE NEIGHBOUR: 'it returns false'. Refute it at one input. -/
def streamHelpedWrong : ChangeSpec := { name := "streamHelped", fn := fun _ => fun
  | [d1, d2, d3] => { results := [.lit (.bool false)], args := [d1, d2, d3] }
  | _ => none }
def StreamHelpedWrongFalsely : Prop := streamHelpedRow.holds Try.pinned (OpenSpec.ofChange streamHelpedWrong)

/- THE SECOND FORM. 'bulk': how many values and letters a reading holds, each counted each time it is reached (what is shared counts as often as it is met; a slice's spare places count too). A statement '..UptoSaid' is the law's where the arguments, and the package variables that the reading takes, are together of bulk at most 1048576: NARROWER than '..Said'. Prove '..Said' where nothing that the law and all that it calls make is longer than what came in: it says more and counts as full. Else prove '..UptoSaid'. A law counts once. -/
mutual
def uptoBulk {H : Type} : DataW H → Nat
  | .lit (.string bytes) => bytes.length + 1
  | .lit _ => 1
  | .nil => 1
  | .ptr d => uptoBulk d + 1
  | .slice elems spare => uptoBulkAll elems + uptoBulkAll spare + 1
  | .agg parts => uptoBulkAll parts + 1
  | .iface _ d => uptoBulk d + 1
  | .map entries => uptoBulkEntries entries + 1
  | .held _ => 1
def uptoBulkAll {H : Type} : List (DataW H) → Nat
  | [] => 0
  | d :: r => uptoBulk d + uptoBulkAll r
def uptoBulkEntries {H : Type} : List (Lit × DataW H) → Nat
  | [] => 0
  | x :: r => uptoBulkEntry x + uptoBulkEntries r
def uptoBulkEntry {H : Type} : Lit × DataW H → Nat
  | (.string bytes, d) => bytes.length + uptoBulk d + 1
  | (_, d) => uptoBulk d + 1
 end
def uptoSmall : (H : Type) → List (DataW H) → Bool := fun _ ds => decide (uptoBulkAll ds ≤ 1048576)
def OpenSpec.upto (s : _root_.Go.ChangeSpec) : _root_.Go.OpenSpec := { _root_.Go.OpenSpec.ofChange s with cond := some uptoSmall }

/-- 'walkmilllaw02.StreamGoes', WHERE WHAT IT READS IS OF BULK AT MOST 1048576: true; the input reads as it did. -/
def streamGoesUptoRow : OpenClaim := { program := "ytcnlbbmokphjnaa", sum := "95acbf241031df3bfdaf5c0e4d0e2e4128d508cff77265e34d53b127d7c28d3d", func := "walkmill/walkmilllaw02.StreamGoes", spec := "streamGoes", unfollowed := true, recurses := true, plainKeys := false, apart := false, narrowed := true }
def StreamGoesUptoSaid : Prop := streamGoesUptoRow.holds Try.pinned (OpenSpec.upto streamGoesSpec)

/-- 'walkmilllaw02.StreamBlows', WHERE WHAT IT READS IS OF BULK AT MOST 1048576: true; the input reads as it did. -/
def streamBlowsUptoRow : OpenClaim := { program := "ytcnlbbmokphjnaa", sum := "95acbf241031df3bfdaf5c0e4d0e2e4128d508cff77265e34d53b127d7c28d3d", func := "walkmill/walkmilllaw02.StreamBlows", spec := "streamBlows", unfollowed := true, recurses := true, plainKeys := false, apart := false, narrowed := true }
def StreamBlowsUptoSaid : Prop := streamBlowsUptoRow.holds Try.pinned (OpenSpec.upto streamBlowsSpec)

/-- 'walkmilllaw02.StreamMosts', WHERE WHAT IT READS IS OF BULK AT MOST 1048576: true; the input reads as it did. -/
def streamMostsUptoRow : OpenClaim := { program := "ytcnlbbmokphjnaa", sum := "95acbf241031df3bfdaf5c0e4d0e2e4128d508cff77265e34d53b127d7c28d3d", func := "walkmill/walkmilllaw02.StreamMosts", spec := "streamMosts", unfollowed := true, recurses := true, plainKeys := false, apart := false, narrowed := true }
def StreamMostsUptoSaid : Prop := streamMostsUptoRow.holds Try.pinned (OpenSpec.upto streamMostsSpec)

/-- 'walkmilllaw02.StreamLasts', WHERE WHAT IT READS IS OF BULK AT MOST 1048576: true; the input reads as it did. -/
def streamLastsUptoRow : OpenClaim := { program := "ytcnlbbmokphjnaa", sum := "95acbf241031df3bfdaf5c0e4d0e2e4128d508cff77265e34d53b127d7c28d3d", func := "walkmill/walkmilllaw02.StreamLasts", spec := "streamLasts", unfollowed := true, recurses := true, plainKeys := false, apart := false, narrowed := true }
def StreamLastsUptoSaid : Prop := streamLastsUptoRow.holds Try.pinned (OpenSpec.upto streamLastsSpec)

/-- 'walkmilllaw02.StreamWindows', WHERE WHAT IT READS IS OF BULK AT MOST 1048576: true; the input reads as it did. -/
def streamWindowsUptoRow : OpenClaim := { program := "ytcnlbbmokphjnaa", sum := "95acbf241031df3bfdaf5c0e4d0e2e4128d508cff77265e34d53b127d7c28d3d", func := "walkmill/walkmilllaw02.StreamWindows", spec := "streamWindows", unfollowed := true, recurses := true, plainKeys := false, apart := false, narrowed := true }
def StreamWindowsUptoSaid : Prop := streamWindowsUptoRow.holds Try.pinned (OpenSpec.upto streamWindowsSpec)

/-- 'walkmilllaw02.StreamUpstreams', WHERE WHAT IT READS IS OF BULK AT MOST 1048576: true; the input reads as it did. -/
def streamUpstreamsUptoRow : OpenClaim := { program := "ytcnlbbmokphjnaa", sum := "95acbf241031df3bfdaf5c0e4d0e2e4128d508cff77265e34d53b127d7c28d3d", func := "walkmill/walkmilllaw02.StreamUpstreams", spec := "streamUpstreams", unfollowed := true, recurses := true, plainKeys := false, apart := false, narrowed := true }
def StreamUpstreamsUptoSaid : Prop := streamUpstreamsUptoRow.holds Try.pinned (OpenSpec.upto streamUpstreamsSpec)

/-- 'walkmilllaw02.StreamStops', WHERE WHAT IT READS IS OF BULK AT MOST 1048576: true; the input reads as it did. -/
def streamStopsUptoRow : OpenClaim := { program := "ytcnlbbmokphjnaa", sum := "95acbf241031df3bfdaf5c0e4d0e2e4128d508cff77265e34d53b127d7c28d3d", func := "walkmill/walkmilllaw02.StreamStops", spec := "streamStops", unfollowed := true, recurses := true, plainKeys := false, apart := false, narrowed := true }
def StreamStopsUptoSaid : Prop := streamStopsUptoRow.holds Try.pinned (OpenSpec.upto streamStopsSpec)

/-- 'walkmilllaw02.StreamTruth', WHERE WHAT IT READS IS OF BULK AT MOST 1048576: true; the input reads as it did. -/
def streamTruthUptoRow : OpenClaim := { program := "ytcnlbbmokphjnaa", sum := "95acbf241031df3bfdaf5c0e4d0e2e4128d508cff77265e34d53b127d7c28d3d", func := "walkmill/walkmilllaw02.StreamTruth", spec := "streamTruth", unfollowed := true, recurses := true, plainKeys := false, apart := false, narrowed := true }
def StreamTruthUptoSaid : Prop := streamTruthUptoRow.holds Try.pinned (OpenSpec.upto streamTruthSpec)

/-- 'walkmilllaw02.StreamMore', WHERE WHAT IT READS IS OF BULK AT MOST 1048576: true; the input reads as it did. -/
def streamMoreUptoRow : OpenClaim := { program := "ytcnlbbmokphjnaa", sum := "95acbf241031df3bfdaf5c0e4d0e2e4128d508cff77265e34d53b127d7c28d3d", func := "walkmill/walkmilllaw02.StreamMore", spec := "streamMore", unfollowed := true, recurses := true, plainKeys := false, apart := false, narrowed := true }
def StreamMoreUptoSaid : Prop := streamMoreUptoRow.holds Try.pinned (OpenSpec.upto streamMoreSpec)

/-- 'walkmilllaw02.StreamLong', WHERE WHAT IT READS IS OF BULK AT MOST 1048576: true; the input reads as it did. -/
def streamLongUptoRow : OpenClaim := { program := "ytcnlbbmokphjnaa", sum := "95acbf241031df3bfdaf5c0e4d0e2e4128d508cff77265e34d53b127d7c28d3d", func := "walkmill/walkmilllaw02.StreamLong", spec := "streamLong", unfollowed := true, recurses := true, plainKeys := false, apart := false, narrowed := true }
def StreamLongUptoSaid : Prop := streamLongUptoRow.holds Try.pinned (OpenSpec.upto streamLongSpec)

/-- 'walkmilllaw02.StreamStopped', WHERE WHAT IT READS IS OF BULK AT MOST 1048576: true; the input reads as it did. -/
def streamStoppedUptoRow : OpenClaim := { program := "ytcnlbbmokphjnaa", sum := "95acbf241031df3bfdaf5c0e4d0e2e4128d508cff77265e34d53b127d7c28d3d", func := "walkmill/walkmilllaw02.StreamStopped", spec := "streamStopped", unfollowed := true, recurses := true, plainKeys := false, apart := false, narrowed := true }
def StreamStoppedUptoSaid : Prop := streamStoppedUptoRow.holds Try.pinned (OpenSpec.upto streamStoppedSpec)

/-- 'walkmilllaw02.StreamHelped', WHERE WHAT IT READS IS OF BULK AT MOST 1048576: true; the input reads as it did. -/
def streamHelpedUptoRow : OpenClaim := { program := "ytcnlbbmokphjnaa", sum := "95acbf241031df3bfdaf5c0e4d0e2e4128d508cff77265e34d53b127d7c28d3d", func := "walkmill/walkmilllaw02.StreamHelped", spec := "streamHelped", unfollowed := true, recurses := true, plainKeys := false, apart := false, narrowed := true }
def StreamHelpedUptoSaid : Prop := streamHelpedUptoRow.holds Try.pinned (OpenSpec.upto streamHelpedSpec)

end Rows
end Go.Proofs.Ytcnlbbmokphjnaa
