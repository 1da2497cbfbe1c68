/-
  NARROWER THAN 'FOR EVERY INPUT', by the rows' own cells (each row's printed sentence says how): WoolWeights: laid · WoolMisses: laid · WoolWheres: laid · WoolWrongs: laid · WoolLooks: laid · WoolCommons: laid · WoolNeeds: laid · WoolTruth: laid · WoolThief: laid · WoolMore: laid · WoolSpoilt: laid · WoolNext: laid · WoolEnough: laid.
  DERIVED. THE GIVEN ROWS OF THIS SEAT. 13 by the template 'for every input the law returns true; each argument reads behind the call as it read before'; 0 by the template 'total and deterministic' (their statements: YtemingmeidmjkaaDoorTotals.lean).
  GIVEN WITH THE SEED: the statements are not yours to turn. If you find one false, say at which input.
  Laid BY PROGRAM, IN A SANDBOX (cutbox-rows.mjs): the forced cells as the released guide's own fill.sh prints them over the translation 501e36367c8f07fb… (all of the seat's roots in one cut). By AI agents, Wed Nov 11 2026. No macro, syntax, notation, axiom, sorry.
-/
import Derived.Test.YtemingmeidmjkaaDoorChecked
import GoSem.Claim
import GoSem.ClaimJoined
import GoSem.ClaimMapViews
import Derived.JoinedTies
import Derived.KernelRfl
namespace Go.Proofs.YtemingmeidmjkaaDoor
/- THE CELL 'sum', in the pinned program and in every row, IS THE sha256 OF THE DUMP (.gsa) THAT YtemingmeidmjkaaDoorProg.lean LOADS. Nothing in Lean hashes anything: it is a label: what it is worth is what the hold of that sum in a sandbox is worth. -/
noncomputable def Tryd.pinned : Pinned := { name := "ytemingmeidmjkaadoor", sum := "501e36367c8f07fbe40ba1cfe8d75d86e287dc1105a2df79687f971e978198e6", checked := Tryd.checked }
namespace Rows
def none {H : Type} : Left H := { results := [], args := [] }

/- WHAT THE LISTED PACKAGE-LEVEL VARIABLES READ AS WHEN THE CALL BEGINS. Each datum BY PROGRAM (the guide's laid-datum.mjs) off the statement by which the dump's own 'gosem.cut.vars' lays the variable. In a bare row this is a premise. The card (YtemingmeidmjkaaDoorCards.lean) ties it to the program's text. -/
def laid_walkmill_wool_all {H : Type} : DataW H := .agg [.lit (.int .i64 0), .lit (.int .i64 400)]

/-- 'walkmilllaw10.WoolWeights': WHATEVER THE INPUT: true; the input reads as it did. -/
def woolWeightsSpec : ChangeSpec := { name := "woolWeights", fn := fun _ => fun
  | [d] => { results := [.lit (.bool true)], args := [d] }
  | _ => none }
def woolWeightsRow : OpenClaim := { program := "ytemingmeidmjkaadoor", sum := "501e36367c8f07fbe40ba1cfe8d75d86e287dc1105a2df79687f971e978198e6", func := "walkmill/walkmilllaw10.WoolWeights", spec := "woolWeights", unfollowed := true, recurses := true, named := ["walkmill/wool.all"], apart := false, laid := [("walkmill/wool.all", laid_walkmill_wool_all)] }
def WoolWeightsSaid : Prop := woolWeightsRow.holds Tryd.pinned (OpenSpec.ofChange woolWeightsSpec)

/-- ITS FALSE NEIGHBOUR: 'it returns false'. Refute it at one input. -/
def woolWeightsWrong : ChangeSpec := { name := "woolWeights", fn := fun _ => fun
  | [d] => { results := [.lit (.bool false)], args := [d] }
  | _ => none }
def WoolWeightsWrongFalsely : Prop := woolWeightsRow.holds Tryd.pinned (OpenSpec.ofChange woolWeightsWrong)

/-- 'walkmilllaw10.WoolMisses': WHATEVER THE INPUT: true; the input reads as it did. -/
def woolMissesSpec : ChangeSpec := { name := "woolMisses", fn := fun _ => fun
  | [d] => { results := [.lit (.bool true)], args := [d] }
  | _ => none }
def woolMissesRow : OpenClaim := { program := "ytemingmeidmjkaadoor", sum := "501e36367c8f07fbe40ba1cfe8d75d86e287dc1105a2df79687f971e978198e6", func := "walkmill/walkmilllaw10.WoolMisses", spec := "woolMisses", unfollowed := true, recurses := true, named := ["walkmill/wool.all"], apart := false, laid := [("walkmill/wool.all", laid_walkmill_wool_all)] }
def WoolMissesSaid : Prop := woolMissesRow.holds Tryd.pinned (OpenSpec.ofChange woolMissesSpec)

/-- ITS FALSE NEIGHBOUR: 'it returns false'. Refute it at one input. -/
def woolMissesWrong : ChangeSpec := { name := "woolMisses", fn := fun _ => fun
  | [d] => { results := [.lit (.bool false)], args := [d] }
  | _ => none }
def WoolMissesWrongFalsely : Prop := woolMissesRow.holds Tryd.pinned (OpenSpec.ofChange woolMissesWrong)

/-- 'walkmilllaw10.WoolWheres': WHATEVER THE INPUT: true; the input reads as it did. -/
def woolWheresSpec : ChangeSpec := { name := "woolWheres", fn := fun _ => fun
  | [d1, d2] => { results := [.lit (.bool true)], args := [d1, d2] }
  | _ => none }
def woolWheresRow : OpenClaim := { program := "ytemingmeidmjkaadoor", sum := "501e36367c8f07fbe40ba1cfe8d75d86e287dc1105a2df79687f971e978198e6", func := "walkmill/walkmilllaw10.WoolWheres", spec := "woolWheres", unfollowed := true, recurses := true, named := ["walkmill/wool.all"], apart := false, laid := [("walkmill/wool.all", laid_walkmill_wool_all)] }
def WoolWheresSaid : Prop := woolWheresRow.holds Tryd.pinned (OpenSpec.ofChange woolWheresSpec)

/-- ITS FALSE NEIGHBOUR: 'it returns false'. Refute it at one input. -/
def woolWheresWrong : ChangeSpec := { name := "woolWheres", fn := fun _ => fun
  | [d1, d2] => { results := [.lit (.bool false)], args := [d1, d2] }
  | _ => none }
def WoolWheresWrongFalsely : Prop := woolWheresRow.holds Tryd.pinned (OpenSpec.ofChange woolWheresWrong)

/-- 'walkmilllaw10.WoolWrongs': WHATEVER THE INPUT: true; the input reads as it did. -/
def woolWrongsSpec : ChangeSpec := { name := "woolWrongs", fn := fun _ => fun
  | [d] => { results := [.lit (.bool true)], args := [d] }
  | _ => none }
def woolWrongsRow : OpenClaim := { program := "ytemingmeidmjkaadoor", sum := "501e36367c8f07fbe40ba1cfe8d75d86e287dc1105a2df79687f971e978198e6", func := "walkmill/walkmilllaw10.WoolWrongs", spec := "woolWrongs", unfollowed := true, recurses := true, named := ["walkmill/wool.all"], apart := false, laid := [("walkmill/wool.all", laid_walkmill_wool_all)] }
def WoolWrongsSaid : Prop := woolWrongsRow.holds Tryd.pinned (OpenSpec.ofChange woolWrongsSpec)

/-- ITS FALSE NEIGHBOUR: 'it returns false'. Refute it at one input. -/
def woolWrongsWrong : ChangeSpec := { name := "woolWrongs", fn := fun _ => fun
  | [d] => { results := [.lit (.bool false)], args := [d] }
  | _ => none }
def WoolWrongsWrongFalsely : Prop := woolWrongsRow.holds Tryd.pinned (OpenSpec.ofChange woolWrongsWrong)

/-- 'walkmilllaw10.WoolLooks': WHATEVER THE INPUT: true; the input reads as it did. -/
def woolLooksSpec : ChangeSpec := { name := "woolLooks", fn := fun _ => fun
  | [d1, d2] => { results := [.lit (.bool true)], args := [d1, d2] }
  | _ => none }
def woolLooksRow : OpenClaim := { program := "ytemingmeidmjkaadoor", sum := "501e36367c8f07fbe40ba1cfe8d75d86e287dc1105a2df79687f971e978198e6", func := "walkmill/walkmilllaw10.WoolLooks", spec := "woolLooks", unfollowed := true, recurses := true, named := ["walkmill/wool.all"], apart := false, laid := [("walkmill/wool.all", laid_walkmill_wool_all)] }
def WoolLooksSaid : Prop := woolLooksRow.holds Tryd.pinned (OpenSpec.ofChange woolLooksSpec)

/-- ITS FALSE NEIGHBOUR: 'it returns false'. Refute it at one input. -/
def woolLooksWrong : ChangeSpec := { name := "woolLooks", fn := fun _ => fun
  | [d1, d2] => { results := [.lit (.bool false)], args := [d1, d2] }
  | _ => none }
def WoolLooksWrongFalsely : Prop := woolLooksRow.holds Tryd.pinned (OpenSpec.ofChange woolLooksWrong)

/-- 'walkmilllaw10.WoolCommons': WHATEVER THE INPUT: true; the input reads as it did. -/
def woolCommonsSpec : ChangeSpec := { name := "woolCommons", fn := fun _ => fun
  | [d] => { results := [.lit (.bool true)], args := [d] }
  | _ => none }
def woolCommonsRow : OpenClaim := { program := "ytemingmeidmjkaadoor", sum := "501e36367c8f07fbe40ba1cfe8d75d86e287dc1105a2df79687f971e978198e6", func := "walkmill/walkmilllaw10.WoolCommons", spec := "woolCommons", unfollowed := true, recurses := true, named := ["walkmill/wool.all"], apart := false, laid := [("walkmill/wool.all", laid_walkmill_wool_all)] }
def WoolCommonsSaid : Prop := woolCommonsRow.holds Tryd.pinned (OpenSpec.ofChange woolCommonsSpec)

/-- ITS FALSE NEIGHBOUR: 'it returns false'. Refute it at one input. -/
def woolCommonsWrong : ChangeSpec := { name := "woolCommons", fn := fun _ => fun
  | [d] => { results := [.lit (.bool false)], args := [d] }
  | _ => none }
def WoolCommonsWrongFalsely : Prop := woolCommonsRow.holds Tryd.pinned (OpenSpec.ofChange woolCommonsWrong)

/-- 'walkmilllaw10.WoolNeeds': WHATEVER THE INPUT: true; the input reads as it did. -/
def woolNeedsSpec : ChangeSpec := { name := "woolNeeds", fn := fun _ => fun
  | [d1, d2] => { results := [.lit (.bool true)], args := [d1, d2] }
  | _ => none }
def woolNeedsRow : OpenClaim := { program := "ytemingmeidmjkaadoor", sum := "501e36367c8f07fbe40ba1cfe8d75d86e287dc1105a2df79687f971e978198e6", func := "walkmill/walkmilllaw10.WoolNeeds", spec := "woolNeeds", unfollowed := true, recurses := true, named := ["walkmill/wool.all"], apart := false, laid := [("walkmill/wool.all", laid_walkmill_wool_all)] }
def WoolNeedsSaid : Prop := woolNeedsRow.holds Tryd.pinned (OpenSpec.ofChange woolNeedsSpec)

/-- ITS FALSE NEIGHBOUR: 'it returns false'. Refute it at one input. -/
def woolNeedsWrong : ChangeSpec := { name := "woolNeeds", fn := fun _ => fun
  | [d1, d2] => { results := [.lit (.bool false)], args := [d1, d2] }
  | _ => none }
def WoolNeedsWrongFalsely : Prop := woolNeedsRow.holds Tryd.pinned (OpenSpec.ofChange woolNeedsWrong)

/-- 'walkmilllaw10.WoolTruth': WHATEVER THE INPUT: true; the input reads as it did. -/
def woolTruthSpec : ChangeSpec := { name := "woolTruth", fn := fun _ => fun
  | [d] => { results := [.lit (.bool true)], args := [d] }
  | _ => none }
def woolTruthRow : OpenClaim := { program := "ytemingmeidmjkaadoor", sum := "501e36367c8f07fbe40ba1cfe8d75d86e287dc1105a2df79687f971e978198e6", func := "walkmill/walkmilllaw10.WoolTruth", spec := "woolTruth", unfollowed := true, recurses := true, named := ["walkmill/wool.all"], apart := false, laid := [("walkmill/wool.all", laid_walkmill_wool_all)] }
def WoolTruthSaid : Prop := woolTruthRow.holds Tryd.pinned (OpenSpec.ofChange woolTruthSpec)

/-- ITS FALSE NEIGHBOUR: 'it returns false'. Refute it at one input. -/
def woolTruthWrong : ChangeSpec := { name := "woolTruth", fn := fun _ => fun
  | [d] => { results := [.lit (.bool false)], args := [d] }
  | _ => none }
def WoolTruthWrongFalsely : Prop := woolTruthRow.holds Tryd.pinned (OpenSpec.ofChange woolTruthWrong)

/-- 'walkmilllaw10.WoolThief': WHATEVER THE INPUT: true; the input reads as it did. -/
def woolThiefSpec : ChangeSpec := { name := "woolThief", fn := fun _ => fun
  | [d1, d2] => { results := [.lit (.bool true)], args := [d1, d2] }
  | _ => none }
def woolThiefRow : OpenClaim := { program := "ytemingmeidmjkaadoor", sum := "501e36367c8f07fbe40ba1cfe8d75d86e287dc1105a2df79687f971e978198e6", func := "walkmill/walkmilllaw10.WoolThief", spec := "woolThief", unfollowed := true, recurses := true, named := ["walkmill/wool.all"], apart := false, laid := [("walkmill/wool.all", laid_walkmill_wool_all)] }
def WoolThiefSaid : Prop := woolThiefRow.holds Tryd.pinned (OpenSpec.ofChange woolThiefSpec)

/-- ITS FALSE NEIGHBOUR: 'it returns false'. Refute it at one input. -/
def woolThiefWrong : ChangeSpec := { name := "woolThief", fn := fun _ => fun
  | [d1, d2] => { results := [.lit (.bool false)], args := [d1, d2] }
  | _ => none }
def WoolThiefWrongFalsely : Prop := woolThiefRow.holds Tryd.pinned (OpenSpec.ofChange woolThiefWrong)

/-- 'walkmilllaw10.WoolMore': WHATEVER THE INPUT: true; the input reads as it did. -/
def woolMoreSpec : ChangeSpec := { name := "woolMore", fn := fun _ => fun
  | [d1, d2] => { results := [.lit (.bool true)], args := [d1, d2] }
  | _ => none }
def woolMoreRow : OpenClaim := { program := "ytemingmeidmjkaadoor", sum := "501e36367c8f07fbe40ba1cfe8d75d86e287dc1105a2df79687f971e978198e6", func := "walkmill/walkmilllaw10.WoolMore", spec := "woolMore", unfollowed := true, recurses := true, named := ["walkmill/wool.all"], apart := false, laid := [("walkmill/wool.all", laid_walkmill_wool_all)] }
def WoolMoreSaid : Prop := woolMoreRow.holds Tryd.pinned (OpenSpec.ofChange woolMoreSpec)

/-- ITS FALSE NEIGHBOUR: 'it returns false'. Refute it at one input. -/
def woolMoreWrong : ChangeSpec := { name := "woolMore", fn := fun _ => fun
  | [d1, d2] => { results := [.lit (.bool false)], args := [d1, d2] }
  | _ => none }
def WoolMoreWrongFalsely : Prop := woolMoreRow.holds Tryd.pinned (OpenSpec.ofChange woolMoreWrong)

/-- 'walkmilllaw10.WoolSpoilt': WHATEVER THE INPUT: true; the input reads as it did. -/
def woolSpoiltSpec : ChangeSpec := { name := "woolSpoilt", fn := fun _ => fun
  | [d1, d2] => { results := [.lit (.bool true)], args := [d1, d2] }
  | _ => none }
def woolSpoiltRow : OpenClaim := { program := "ytemingmeidmjkaadoor", sum := "501e36367c8f07fbe40ba1cfe8d75d86e287dc1105a2df79687f971e978198e6", func := "walkmill/walkmilllaw10.WoolSpoilt", spec := "woolSpoilt", unfollowed := true, recurses := true, named := ["walkmill/wool.all"], apart := false, laid := [("walkmill/wool.all", laid_walkmill_wool_all)] }
def WoolSpoiltSaid : Prop := woolSpoiltRow.holds Tryd.pinned (OpenSpec.ofChange woolSpoiltSpec)

/-- ITS FALSE NEIGHBOUR: 'it returns false'. Refute it at one input. -/
def woolSpoiltWrong : ChangeSpec := { name := "woolSpoilt", fn := fun _ => fun
  | [d1, d2] => { results := [.lit (.bool false)], args := [d1, d2] }
  | _ => none }
def WoolSpoiltWrongFalsely : Prop := woolSpoiltRow.holds Tryd.pinned (OpenSpec.ofChange woolSpoiltWrong)

/-- 'walkmilllaw10.WoolNext': WHATEVER THE INPUT: true; the input reads as it did. -/
def woolNextSpec : ChangeSpec := { name := "woolNext", fn := fun _ => fun
  | [d1, d2, d3] => { results := [.lit (.bool true)], args := [d1, d2, d3] }
  | _ => none }
def woolNextRow : OpenClaim := { program := "ytemingmeidmjkaadoor", sum := "501e36367c8f07fbe40ba1cfe8d75d86e287dc1105a2df79687f971e978198e6", func := "walkmill/walkmilllaw10.WoolNext", spec := "woolNext", unfollowed := true, recurses := true, named := ["walkmill/wool.all"], apart := false, laid := [("walkmill/wool.all", laid_walkmill_wool_all)] }
def WoolNextSaid : Prop := woolNextRow.holds Tryd.pinned (OpenSpec.ofChange woolNextSpec)

/-- ITS FALSE NEIGHBOUR: 'it returns false'. Refute it at one input. -/
def woolNextWrong : ChangeSpec := { name := "woolNext", fn := fun _ => fun
  | [d1, d2, d3] => { results := [.lit (.bool false)], args := [d1, d2, d3] }
  | _ => none }
def WoolNextWrongFalsely : Prop := woolNextRow.holds Tryd.pinned (OpenSpec.ofChange woolNextWrong)

/-- 'walkmilllaw10.WoolEnough': WHATEVER THE INPUT: true; the input reads as it did. -/
def woolEnoughSpec : ChangeSpec := { name := "woolEnough", fn := fun _ => fun
  | [d1, d2, d3] => { results := [.lit (.bool true)], args := [d1, d2, d3] }
  | _ => none }
def woolEnoughRow : OpenClaim := { program := "ytemingmeidmjkaadoor", sum := "501e36367c8f07fbe40ba1cfe8d75d86e287dc1105a2df79687f971e978198e6", func := "walkmill/walkmilllaw10.WoolEnough", spec := "woolEnough", unfollowed := true, recurses := true, named := ["walkmill/wool.all"], apart := false, laid := [("walkmill/wool.all", laid_walkmill_wool_all)] }
def WoolEnoughSaid : Prop := woolEnoughRow.holds Tryd.pinned (OpenSpec.ofChange woolEnoughSpec)

/-- ITS FALSE NEIGHBOUR: 'it returns false'. Refute it at one input. -/
def woolEnoughWrong : ChangeSpec := { name := "woolEnough", fn := fun _ => fun
  | [d1, d2, d3] => { results := [.lit (.bool false)], args := [d1, d2, d3] }
  | _ => none }
def WoolEnoughWrongFalsely : Prop := woolEnoughRow.holds Tryd.pinned (OpenSpec.ofChange woolEnoughWrong)

/- THE SECOND FORM. 'bulk': how many values and letters a reading holds, each counted each time it is reached (what is shared counts as often as it is met; a slice's spare places count too). A statement '..UptoSaid' is the law's where the arguments, and the package variables that the reading takes, are together of bulk at most 1048576: NARROWER than '..Said'. Prove '..Said' where nothing that the law and all that it calls make is longer than what came in: it says more and counts as full. Else prove '..UptoSaid'. A law counts once. -/
mutual
def uptoBulk {H : Type} : DataW H → Nat
  | .lit (.string bytes) => bytes.length + 1
  | .lit _ => 1
  | .nil => 1
  | .ptr d => uptoBulk d + 1
  | .slice elems spare => uptoBulkAll elems + uptoBulkAll spare + 1
  | .agg parts => uptoBulkAll parts + 1
  | .iface _ d => uptoBulk d + 1
  | .map entries => uptoBulkEntries entries + 1
  | .held _ => 1
def uptoBulkAll {H : Type} : List (DataW H) → Nat
  | [] => 0
  | d :: r => uptoBulk d + uptoBulkAll r
def uptoBulkEntries {H : Type} : List (Lit × DataW H) → Nat
  | [] => 0
  | x :: r => uptoBulkEntry x + uptoBulkEntries r
def uptoBulkEntry {H : Type} : Lit × DataW H → Nat
  | (.string bytes, d) => bytes.length + uptoBulk d + 1
  | (_, d) => uptoBulk d + 1
 end
def uptoSmall : (H : Type) → List (DataW H) → Bool := fun _ ds => decide (uptoBulkAll ds ≤ 1048576)
def OpenSpec.upto (s : _root_.Go.ChangeSpec) : _root_.Go.OpenSpec := { _root_.Go.OpenSpec.ofChange s with cond := some uptoSmall }

/-- 'walkmilllaw10.WoolWeights', WHERE WHAT IT READS IS OF BULK AT MOST 1048576: true; the input reads as it did. -/
def woolWeightsUptoRow : OpenClaim := { program := "ytemingmeidmjkaadoor", sum := "501e36367c8f07fbe40ba1cfe8d75d86e287dc1105a2df79687f971e978198e6", func := "walkmill/walkmilllaw10.WoolWeights", spec := "woolWeights", unfollowed := true, recurses := true, named := ["walkmill/wool.all"], apart := false, laid := [("walkmill/wool.all", laid_walkmill_wool_all)], narrowed := true }
def WoolWeightsUptoSaid : Prop := woolWeightsUptoRow.holds Tryd.pinned (OpenSpec.upto woolWeightsSpec)

/-- 'walkmilllaw10.WoolMisses', WHERE WHAT IT READS IS OF BULK AT MOST 1048576: true; the input reads as it did. -/
def woolMissesUptoRow : OpenClaim := { program := "ytemingmeidmjkaadoor", sum := "501e36367c8f07fbe40ba1cfe8d75d86e287dc1105a2df79687f971e978198e6", func := "walkmill/walkmilllaw10.WoolMisses", spec := "woolMisses", unfollowed := true, recurses := true, named := ["walkmill/wool.all"], apart := false, laid := [("walkmill/wool.all", laid_walkmill_wool_all)], narrowed := true }
def WoolMissesUptoSaid : Prop := woolMissesUptoRow.holds Tryd.pinned (OpenSpec.upto woolMissesSpec)

/-- 'walkmilllaw10.WoolWheres', WHERE WHAT IT READS IS OF BULK AT MOST 1048576: true; the input reads as it did. -/
def woolWheresUptoRow : OpenClaim := { program := "ytemingmeidmjkaadoor", sum := "501e36367c8f07fbe40ba1cfe8d75d86e287dc1105a2df79687f971e978198e6", func := "walkmill/walkmilllaw10.WoolWheres", spec := "woolWheres", unfollowed := true, recurses := true, named := ["walkmill/wool.all"], apart := false, laid := [("walkmill/wool.all", laid_walkmill_wool_all)], narrowed := true }
def WoolWheresUptoSaid : Prop := woolWheresUptoRow.holds Tryd.pinned (OpenSpec.upto woolWheresSpec)

/-- 'walkmilllaw10.WoolWrongs', WHERE WHAT IT READS IS OF BULK AT MOST 1048576: true; the input reads as it did. -/
def woolWrongsUptoRow : OpenClaim := { program := "ytemingmeidmjkaadoor", sum := "501e36367c8f07fbe40ba1cfe8d75d86e287dc1105a2df79687f971e978198e6", func := "walkmill/walkmilllaw10.WoolWrongs", spec := "woolWrongs", unfollowed := true, recurses := true, named := ["walkmill/wool.all"], apart := false, laid := [("walkmill/wool.all", laid_walkmill_wool_all)], narrowed := true }
def WoolWrongsUptoSaid : Prop := woolWrongsUptoRow.holds Tryd.pinned (OpenSpec.upto woolWrongsSpec)

/-- 'walkmilllaw10.WoolLooks', WHERE WHAT IT READS IS OF BULK AT MOST 1048576: true; the input reads as it did. -/
def woolLooksUptoRow : OpenClaim := { program := "ytemingmeidmjkaadoor", sum := "501e36367c8f07fbe40ba1cfe8d75d86e287dc1105a2df79687f971e978198e6", func := "walkmill/walkmilllaw10.WoolLooks", spec := "woolLooks", unfollowed := true, recurses := true, named := ["walkmill/wool.all"], apart := false, laid := [("walkmill/wool.all", laid_walkmill_wool_all)], narrowed := true }
def WoolLooksUptoSaid : Prop := woolLooksUptoRow.holds Tryd.pinned (OpenSpec.upto woolLooksSpec)

/-- 'walkmilllaw10.WoolCommons', WHERE WHAT IT READS IS OF BULK AT MOST 1048576: true; the input reads as it did. -/
def woolCommonsUptoRow : OpenClaim := { program := "ytemingmeidmjkaadoor", sum := "501e36367c8f07fbe40ba1cfe8d75d86e287dc1105a2df79687f971e978198e6", func := "walkmill/walkmilllaw10.WoolCommons", spec := "woolCommons", unfollowed := true, recurses := true, named := ["walkmill/wool.all"], apart := false, laid := [("walkmill/wool.all", laid_walkmill_wool_all)], narrowed := true }
def WoolCommonsUptoSaid : Prop := woolCommonsUptoRow.holds Tryd.pinned (OpenSpec.upto woolCommonsSpec)

/-- 'walkmilllaw10.WoolNeeds', WHERE WHAT IT READS IS OF BULK AT MOST 1048576: true; the input reads as it did. -/
def woolNeedsUptoRow : OpenClaim := { program := "ytemingmeidmjkaadoor", sum := "501e36367c8f07fbe40ba1cfe8d75d86e287dc1105a2df79687f971e978198e6", func := "walkmill/walkmilllaw10.WoolNeeds", spec := "woolNeeds", unfollowed := true, recurses := true, named := ["walkmill/wool.all"], apart := false, laid := [("walkmill/wool.all", laid_walkmill_wool_all)], narrowed := true }
def WoolNeedsUptoSaid : Prop := woolNeedsUptoRow.holds Tryd.pinned (OpenSpec.upto woolNeedsSpec)

/-- 'walkmilllaw10.WoolTruth', WHERE WHAT IT READS IS OF BULK AT MOST 1048576: true; the input reads as it did. -/
def woolTruthUptoRow : OpenClaim := { program := "ytemingmeidmjkaadoor", sum := "501e36367c8f07fbe40ba1cfe8d75d86e287dc1105a2df79687f971e978198e6", func := "walkmill/walkmilllaw10.WoolTruth", spec := "woolTruth", unfollowed := true, recurses := true, named := ["walkmill/wool.all"], apart := false, laid := [("walkmill/wool.all", laid_walkmill_wool_all)], narrowed := true }
def WoolTruthUptoSaid : Prop := woolTruthUptoRow.holds Tryd.pinned (OpenSpec.upto woolTruthSpec)

/-- 'walkmilllaw10.WoolThief', WHERE WHAT IT READS IS OF BULK AT MOST 1048576: true; the input reads as it did. -/
def woolThiefUptoRow : OpenClaim := { program := "ytemingmeidmjkaadoor", sum := "501e36367c8f07fbe40ba1cfe8d75d86e287dc1105a2df79687f971e978198e6", func := "walkmill/walkmilllaw10.WoolThief", spec := "woolThief", unfollowed := true, recurses := true, named := ["walkmill/wool.all"], apart := false, laid := [("walkmill/wool.all", laid_walkmill_wool_all)], narrowed := true }
def WoolThiefUptoSaid : Prop := woolThiefUptoRow.holds Tryd.pinned (OpenSpec.upto woolThiefSpec)

/-- 'walkmilllaw10.WoolMore', WHERE WHAT IT READS IS OF BULK AT MOST 1048576: true; the input reads as it did. -/
def woolMoreUptoRow : OpenClaim := { program := "ytemingmeidmjkaadoor", sum := "501e36367c8f07fbe40ba1cfe8d75d86e287dc1105a2df79687f971e978198e6", func := "walkmill/walkmilllaw10.WoolMore", spec := "woolMore", unfollowed := true, recurses := true, named := ["walkmill/wool.all"], apart := false, laid := [("walkmill/wool.all", laid_walkmill_wool_all)], narrowed := true }
def WoolMoreUptoSaid : Prop := woolMoreUptoRow.holds Tryd.pinned (OpenSpec.upto woolMoreSpec)

/-- 'walkmilllaw10.WoolSpoilt', WHERE WHAT IT READS IS OF BULK AT MOST 1048576: true; the input reads as it did. -/
def woolSpoiltUptoRow : OpenClaim := { program := "ytemingmeidmjkaadoor", sum := "501e36367c8f07fbe40ba1cfe8d75d86e287dc1105a2df79687f971e978198e6", func := "walkmill/walkmilllaw10.WoolSpoilt", spec := "woolSpoilt", unfollowed := true, recurses := true, named := ["walkmill/wool.all"], apart := false, laid := [("walkmill/wool.all", laid_walkmill_wool_all)], narrowed := true }
def WoolSpoiltUptoSaid : Prop := woolSpoiltUptoRow.holds Tryd.pinned (OpenSpec.upto woolSpoiltSpec)

/-- 'walkmilllaw10.WoolNext', WHERE WHAT IT READS IS OF BULK AT MOST 1048576: true; the input reads as it did. -/
def woolNextUptoRow : OpenClaim := { program := "ytemingmeidmjkaadoor", sum := "501e36367c8f07fbe40ba1cfe8d75d86e287dc1105a2df79687f971e978198e6", func := "walkmill/walkmilllaw10.WoolNext", spec := "woolNext", unfollowed := true, recurses := true, named := ["walkmill/wool.all"], apart := false, laid := [("walkmill/wool.all", laid_walkmill_wool_all)], narrowed := true }
def WoolNextUptoSaid : Prop := woolNextUptoRow.holds Tryd.pinned (OpenSpec.upto woolNextSpec)

/-- 'walkmilllaw10.WoolEnough', WHERE WHAT IT READS IS OF BULK AT MOST 1048576: true; the input reads as it did. -/
def woolEnoughUptoRow : OpenClaim := { program := "ytemingmeidmjkaadoor", sum := "501e36367c8f07fbe40ba1cfe8d75d86e287dc1105a2df79687f971e978198e6", func := "walkmill/walkmilllaw10.WoolEnough", spec := "woolEnough", unfollowed := true, recurses := true, named := ["walkmill/wool.all"], apart := false, laid := [("walkmill/wool.all", laid_walkmill_wool_all)], narrowed := true }
def WoolEnoughUptoSaid : Prop := woolEnoughUptoRow.holds Tryd.pinned (OpenSpec.upto woolEnoughSpec)

end Rows
end Go.Proofs.YtemingmeidmjkaaDoor
