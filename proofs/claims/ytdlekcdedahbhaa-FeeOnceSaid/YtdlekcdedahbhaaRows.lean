/-
  No cell of these rows narrows 'for every input' (looked for: loops, veiled, ifaces, maps, wideKeys, modest, calm, conditions, laid).
  DERIVED. THE GIVEN ROWS OF THIS SEAT. 15 by the template 'for every input the law returns true; each argument reads behind the call as it read before'; 0 by the template 'total and deterministic' (their statements: YtdlekcdedahbhaaTotals.lean).
  GIVEN WITH THE SEED: the statements are not yours to turn. If you find one false, say at which input.
  Laid BY PROGRAM, IN A SANDBOX (cutbox-rows.mjs): the forced cells as the released guide's own fill.sh prints them over the translation 8f1f216ff527f143… (all of the seat's roots in one cut). By AI agents, Wed Nov 11 2026. No macro, syntax, notation, axiom, sorry.
-/
import Derived.Test.YtdlekcdedahbhaaChecked
import GoSem.Claim
import GoSem.ClaimJoined
import GoSem.ClaimMapViews
import Derived.JoinedTies
import Derived.KernelRfl
namespace Go.Proofs.Ytdlekcdedahbhaa
/- THE CELL 'sum', in the pinned program and in every row, IS THE sha256 OF THE DUMP (.gsa) THAT YtdlekcdedahbhaaProg.lean LOADS. Nothing in Lean hashes anything: it is a label: what it is worth is what the hold of that sum in a sandbox is worth. -/
noncomputable def Try.pinned : Pinned := { name := "ytdlekcdedahbhaa", sum := "8f1f216ff527f143917f33eb57fe3521a3c08098d942279f262f49a53f96ac13", checked := Try.checked }
namespace Rows
def none {H : Type} : Left H := { results := [], args := [] }

/-- 'walkmilllaw12.FeeFees': WHATEVER THE INPUT: true; the input reads as it did. -/
def feeFeesSpec : ChangeSpec := { name := "feeFees", fn := fun _ => fun
  | [d1, d2] => { results := [.lit (.bool true)], args := [d1, d2] }
  | _ => none }
def feeFeesRow : OpenClaim := { program := "ytdlekcdedahbhaa", sum := "8f1f216ff527f143917f33eb57fe3521a3c08098d942279f262f49a53f96ac13", func := "walkmill/walkmilllaw12.FeeFees", spec := "feeFees", unfollowed := true, recurses := true, plainKeys := false, apart := false }
def FeeFeesSaid : Prop := feeFeesRow.holds Try.pinned (OpenSpec.ofChange feeFeesSpec)

/-- ITS FALSE NEIGHBOUR: 'it returns false'. Refute it at one input. -/
def feeFeesWrong : ChangeSpec := { name := "feeFees", fn := fun _ => fun
  | [d1, d2] => { results := [.lit (.bool false)], args := [d1, d2] }
  | _ => none }
def FeeFeesWrongFalsely : Prop := feeFeesRow.holds Try.pinned (OpenSpec.ofChange feeFeesWrong)

/-- 'walkmilllaw12.FeePrices': WHATEVER THE INPUT: true; the input reads as it did. -/
def feePricesSpec : ChangeSpec := { name := "feePrices", fn := fun _ => fun
  | [d1, d2, d3] => { results := [.lit (.bool true)], args := [d1, d2, d3] }
  | _ => none }
def feePricesRow : OpenClaim := { program := "ytdlekcdedahbhaa", sum := "8f1f216ff527f143917f33eb57fe3521a3c08098d942279f262f49a53f96ac13", func := "walkmill/walkmilllaw12.FeePrices", spec := "feePrices", unfollowed := true, recurses := true, plainKeys := false, apart := false }
def FeePricesSaid : Prop := feePricesRow.holds Try.pinned (OpenSpec.ofChange feePricesSpec)

/-- ITS FALSE NEIGHBOUR: 'it returns false'. Refute it at one input. -/
def feePricesWrong : ChangeSpec := { name := "feePrices", fn := fun _ => fun
  | [d1, d2, d3] => { results := [.lit (.bool false)], args := [d1, d2, d3] }
  | _ => none }
def FeePricesWrongFalsely : Prop := feePricesRow.holds Try.pinned (OpenSpec.ofChange feePricesWrong)

/-- 'walkmilllaw12.FeeBalances': WHATEVER THE INPUT: true; the input reads as it did. -/
def feeBalancesSpec : ChangeSpec := { name := "feeBalances", fn := fun _ => fun
  | [d] => { results := [.lit (.bool true)], args := [d] }
  | _ => none }
def feeBalancesRow : OpenClaim := { program := "ytdlekcdedahbhaa", sum := "8f1f216ff527f143917f33eb57fe3521a3c08098d942279f262f49a53f96ac13", func := "walkmill/walkmilllaw12.FeeBalances", spec := "feeBalances", unfollowed := true, recurses := true, plainKeys := false, apart := false }
def FeeBalancesSaid : Prop := feeBalancesRow.holds Try.pinned (OpenSpec.ofChange feeBalancesSpec)

/-- ITS FALSE NEIGHBOUR: 'it returns false'. Refute it at one input. -/
def feeBalancesWrong : ChangeSpec := { name := "feeBalances", fn := fun _ => fun
  | [d] => { results := [.lit (.bool false)], args := [d] }
  | _ => none }
def FeeBalancesWrongFalsely : Prop := feeBalancesRow.holds Try.pinned (OpenSpec.ofChange feeBalancesWrong)

/-- 'walkmilllaw12.FeeBooks': WHATEVER THE INPUT: true; the input reads as it did. -/
def feeBooksSpec : ChangeSpec := { name := "feeBooks", fn := fun _ => fun
  | [d1, d2] => { results := [.lit (.bool true)], args := [d1, d2] }
  | _ => none }
def feeBooksRow : OpenClaim := { program := "ytdlekcdedahbhaa", sum := "8f1f216ff527f143917f33eb57fe3521a3c08098d942279f262f49a53f96ac13", func := "walkmill/walkmilllaw12.FeeBooks", spec := "feeBooks", unfollowed := true, recurses := true, plainKeys := false, apart := false }
def FeeBooksSaid : Prop := feeBooksRow.holds Try.pinned (OpenSpec.ofChange feeBooksSpec)

/-- ITS FALSE NEIGHBOUR: 'it returns false'. Refute it at one input. -/
def feeBooksWrong : ChangeSpec := { name := "feeBooks", fn := fun _ => fun
  | [d1, d2] => { results := [.lit (.bool false)], args := [d1, d2] }
  | _ => none }
def FeeBooksWrongFalsely : Prop := feeBooksRow.holds Try.pinned (OpenSpec.ofChange feeBooksWrong)

/-- 'walkmilllaw12.FeeSlips': WHATEVER THE INPUT: true; the input reads as it did. -/
def feeSlipsSpec : ChangeSpec := { name := "feeSlips", fn := fun _ => fun
  | [d1, d2] => { results := [.lit (.bool true)], args := [d1, d2] }
  | _ => none }
def feeSlipsRow : OpenClaim := { program := "ytdlekcdedahbhaa", sum := "8f1f216ff527f143917f33eb57fe3521a3c08098d942279f262f49a53f96ac13", func := "walkmill/walkmilllaw12.FeeSlips", spec := "feeSlips", unfollowed := true, recurses := true, plainKeys := false, apart := false }
def FeeSlipsSaid : Prop := feeSlipsRow.holds Try.pinned (OpenSpec.ofChange feeSlipsSpec)

/-- ITS FALSE NEIGHBOUR: 'it returns false'. Refute it at one input. -/
def feeSlipsWrong : ChangeSpec := { name := "feeSlips", fn := fun _ => fun
  | [d1, d2] => { results := [.lit (.bool false)], args := [d1, d2] }
  | _ => none }
def FeeSlipsWrongFalsely : Prop := feeSlipsRow.holds Try.pinned (OpenSpec.ofChange feeSlipsWrong)

/-- 'walkmilllaw12.FeeFills': WHATEVER THE INPUT: true; the input reads as it did. -/
def feeFillsSpec : ChangeSpec := { name := "feeFills", fn := fun _ => fun
  | [d1, d2] => { results := [.lit (.bool true)], args := [d1, d2] }
  | _ => none }
def feeFillsRow : OpenClaim := { program := "ytdlekcdedahbhaa", sum := "8f1f216ff527f143917f33eb57fe3521a3c08098d942279f262f49a53f96ac13", func := "walkmill/walkmilllaw12.FeeFills", spec := "feeFills", unfollowed := true, recurses := true, plainKeys := false, apart := false }
def FeeFillsSaid : Prop := feeFillsRow.holds Try.pinned (OpenSpec.ofChange feeFillsSpec)

/-- ITS FALSE NEIGHBOUR: 'it returns false'. Refute it at one input. -/
def feeFillsWrong : ChangeSpec := { name := "feeFills", fn := fun _ => fun
  | [d1, d2] => { results := [.lit (.bool false)], args := [d1, d2] }
  | _ => none }
def FeeFillsWrongFalsely : Prop := feeFillsRow.holds Try.pinned (OpenSpec.ofChange feeFillsWrong)

/-- 'walkmilllaw12.FeeSettles': WHATEVER THE INPUT: true; the input reads as it did. -/
def feeSettlesSpec : ChangeSpec := { name := "feeSettles", fn := fun _ => fun
  | [d] => { results := [.lit (.bool true)], args := [d] }
  | _ => none }
def feeSettlesRow : OpenClaim := { program := "ytdlekcdedahbhaa", sum := "8f1f216ff527f143917f33eb57fe3521a3c08098d942279f262f49a53f96ac13", func := "walkmill/walkmilllaw12.FeeSettles", spec := "feeSettles", unfollowed := true, recurses := true, plainKeys := false, apart := false }
def FeeSettlesSaid : Prop := feeSettlesRow.holds Try.pinned (OpenSpec.ofChange feeSettlesSpec)

/-- ITS FALSE NEIGHBOUR: 'it returns false'. Refute it at one input. -/
def feeSettlesWrong : ChangeSpec := { name := "feeSettles", fn := fun _ => fun
  | [d] => { results := [.lit (.bool false)], args := [d] }
  | _ => none }
def FeeSettlesWrongFalsely : Prop := feeSettlesRow.holds Try.pinned (OpenSpec.ofChange feeSettlesWrong)

/-- 'walkmilllaw12.FeeDividends': WHATEVER THE INPUT: true; the input reads as it did. -/
def feeDividendsSpec : ChangeSpec := { name := "feeDividends", fn := fun _ => fun
  | [d1, d2] => { results := [.lit (.bool true)], args := [d1, d2] }
  | _ => none }
def feeDividendsRow : OpenClaim := { program := "ytdlekcdedahbhaa", sum := "8f1f216ff527f143917f33eb57fe3521a3c08098d942279f262f49a53f96ac13", func := "walkmill/walkmilllaw12.FeeDividends", spec := "feeDividends", unfollowed := true, recurses := true, plainKeys := false, apart := false }
def FeeDividendsSaid : Prop := feeDividendsRow.holds Try.pinned (OpenSpec.ofChange feeDividendsSpec)

/-- ITS FALSE NEIGHBOUR: 'it returns false'. Refute it at one input. -/
def feeDividendsWrong : ChangeSpec := { name := "feeDividends", fn := fun _ => fun
  | [d1, d2] => { results := [.lit (.bool false)], args := [d1, d2] }
  | _ => none }
def FeeDividendsWrongFalsely : Prop := feeDividendsRow.holds Try.pinned (OpenSpec.ofChange feeDividendsWrong)

/-- 'walkmilllaw12.FeeTrue': WHATEVER THE INPUT: true; the input reads as it did. -/
def feeTrueSpec : ChangeSpec := { name := "feeTrue", fn := fun _ => fun
  | [d] => { results := [.lit (.bool true)], args := [d] }
  | _ => none }
def feeTrueRow : OpenClaim := { program := "ytdlekcdedahbhaa", sum := "8f1f216ff527f143917f33eb57fe3521a3c08098d942279f262f49a53f96ac13", func := "walkmill/walkmilllaw12.FeeTrue", spec := "feeTrue", unfollowed := true, recurses := true, plainKeys := false, apart := false }
def FeeTrueSaid : Prop := feeTrueRow.holds Try.pinned (OpenSpec.ofChange feeTrueSpec)

/-- ITS FALSE NEIGHBOUR: 'it returns false'. Refute it at one input. -/
def feeTrueWrong : ChangeSpec := { name := "feeTrue", fn := fun _ => fun
  | [d] => { results := [.lit (.bool false)], args := [d] }
  | _ => none }
def FeeTrueWrongFalsely : Prop := feeTrueRow.holds Try.pinned (OpenSpec.ofChange feeTrueWrong)

/-- 'walkmilllaw12.FeeAdds': WHATEVER THE INPUT: true; the input reads as it did. -/
def feeAddsSpec : ChangeSpec := { name := "feeAdds", fn := fun _ => fun
  | [d1, d2] => { results := [.lit (.bool true)], args := [d1, d2] }
  | _ => none }
def feeAddsRow : OpenClaim := { program := "ytdlekcdedahbhaa", sum := "8f1f216ff527f143917f33eb57fe3521a3c08098d942279f262f49a53f96ac13", func := "walkmill/walkmilllaw12.FeeAdds", spec := "feeAdds", unfollowed := true, recurses := true, plainKeys := false, apart := false }
def FeeAddsSaid : Prop := feeAddsRow.holds Try.pinned (OpenSpec.ofChange feeAddsSpec)

/-- ITS FALSE NEIGHBOUR: 'it returns false'. Refute it at one input. -/
def feeAddsWrong : ChangeSpec := { name := "feeAdds", fn := fun _ => fun
  | [d1, d2] => { results := [.lit (.bool false)], args := [d1, d2] }
  | _ => none }
def FeeAddsWrongFalsely : Prop := feeAddsRow.holds Try.pinned (OpenSpec.ofChange feeAddsWrong)

/-- 'walkmilllaw12.FeeOnce': WHATEVER THE INPUT: true; the input reads as it did. -/
def feeOnceSpec : ChangeSpec := { name := "feeOnce", fn := fun _ => fun
  | [d1, d2] => { results := [.lit (.bool true)], args := [d1, d2] }
  | _ => none }
def feeOnceRow : OpenClaim := { program := "ytdlekcdedahbhaa", sum := "8f1f216ff527f143917f33eb57fe3521a3c08098d942279f262f49a53f96ac13", func := "walkmill/walkmilllaw12.FeeOnce", spec := "feeOnce", unfollowed := true, recurses := true, plainKeys := false, apart := false }
def FeeOnceSaid : Prop := feeOnceRow.holds Try.pinned (OpenSpec.ofChange feeOnceSpec)

/-- ITS FALSE NEIGHBOUR: 'it returns false'. Refute it at one input. -/
def feeOnceWrong : ChangeSpec := { name := "feeOnce", fn := fun _ => fun
  | [d1, d2] => { results := [.lit (.bool false)], args := [d1, d2] }
  | _ => none }
def FeeOnceWrongFalsely : Prop := feeOnceRow.holds Try.pinned (OpenSpec.ofChange feeOnceWrong)

/-- 'walkmilllaw12.FeeSlip': WHATEVER THE INPUT: true; the input reads as it did. -/
def feeSlipSpec : ChangeSpec := { name := "feeSlip", fn := fun _ => fun
  | [d1, d2] => { results := [.lit (.bool true)], args := [d1, d2] }
  | _ => none }
def feeSlipRow : OpenClaim := { program := "ytdlekcdedahbhaa", sum := "8f1f216ff527f143917f33eb57fe3521a3c08098d942279f262f49a53f96ac13", func := "walkmill/walkmilllaw12.FeeSlip", spec := "feeSlip", unfollowed := true, recurses := true, plainKeys := false, apart := false }
def FeeSlipSaid : Prop := feeSlipRow.holds Try.pinned (OpenSpec.ofChange feeSlipSpec)

/-- ITS FALSE NEIGHBOUR: 'it returns false'. Refute it at one input. -/
def feeSlipWrong : ChangeSpec := { name := "feeSlip", fn := fun _ => fun
  | [d1, d2] => { results := [.lit (.bool false)], args := [d1, d2] }
  | _ => none }
def FeeSlipWrongFalsely : Prop := feeSlipRow.holds Try.pinned (OpenSpec.ofChange feeSlipWrong)

/-- 'walkmilllaw12.FeeBlotted': WHATEVER THE INPUT: true; the input reads as it did. -/
def feeBlottedSpec : ChangeSpec := { name := "feeBlotted", fn := fun _ => fun
  | [d1, d2, d3] => { results := [.lit (.bool true)], args := [d1, d2, d3] }
  | _ => none }
def feeBlottedRow : OpenClaim := { program := "ytdlekcdedahbhaa", sum := "8f1f216ff527f143917f33eb57fe3521a3c08098d942279f262f49a53f96ac13", func := "walkmill/walkmilllaw12.FeeBlotted", spec := "feeBlotted", unfollowed := true, recurses := true, plainKeys := false, apart := false }
def FeeBlottedSaid : Prop := feeBlottedRow.holds Try.pinned (OpenSpec.ofChange feeBlottedSpec)

/-- ITS FALSE NEIGHBOUR: 'it returns false'. Refute it at one input. -/
def feeBlottedWrong : ChangeSpec := { name := "feeBlotted", fn := fun _ => fun
  | [d1, d2, d3] => { results := [.lit (.bool false)], args := [d1, d2, d3] }
  | _ => none }
def FeeBlottedWrongFalsely : Prop := feeBlottedRow.holds Try.pinned (OpenSpec.ofChange feeBlottedWrong)

/-- 'walkmilllaw12.FeeSettled': WHATEVER THE INPUT: true; the input reads as it did. -/
def feeSettledSpec : ChangeSpec := { name := "feeSettled", fn := fun _ => fun
  | [d1, d2] => { results := [.lit (.bool true)], args := [d1, d2] }
  | _ => none }
def feeSettledRow : OpenClaim := { program := "ytdlekcdedahbhaa", sum := "8f1f216ff527f143917f33eb57fe3521a3c08098d942279f262f49a53f96ac13", func := "walkmill/walkmilllaw12.FeeSettled", spec := "feeSettled", unfollowed := true, recurses := true, plainKeys := false, apart := false }
def FeeSettledSaid : Prop := feeSettledRow.holds Try.pinned (OpenSpec.ofChange feeSettledSpec)

/-- ITS FALSE NEIGHBOUR: 'it returns false'. Refute it at one input. -/
def feeSettledWrong : ChangeSpec := { name := "feeSettled", fn := fun _ => fun
  | [d1, d2] => { results := [.lit (.bool false)], args := [d1, d2] }
  | _ => none }
def FeeSettledWrongFalsely : Prop := feeSettledRow.holds Try.pinned (OpenSpec.ofChange feeSettledWrong)

/-- 'walkmilllaw12.FeeOwners': WHATEVER THE INPUT: true; the input reads as it did. -/
def feeOwnersSpec : ChangeSpec := { name := "feeOwners", fn := fun _ => fun
  | [d1, d2] => { results := [.lit (.bool true)], args := [d1, d2] }
  | _ => none }
def feeOwnersRow : OpenClaim := { program := "ytdlekcdedahbhaa", sum := "8f1f216ff527f143917f33eb57fe3521a3c08098d942279f262f49a53f96ac13", func := "walkmill/walkmilllaw12.FeeOwners", spec := "feeOwners", unfollowed := true, recurses := true, plainKeys := false, apart := false }
def FeeOwnersSaid : Prop := feeOwnersRow.holds Try.pinned (OpenSpec.ofChange feeOwnersSpec)

/-- ITS FALSE NEIGHBOUR: 'it returns false'. Refute it at one input. -/
def feeOwnersWrong : ChangeSpec := { name := "feeOwners", fn := fun _ => fun
  | [d1, d2] => { results := [.lit (.bool false)], args := [d1, d2] }
  | _ => none }
def FeeOwnersWrongFalsely : Prop := feeOwnersRow.holds Try.pinned (OpenSpec.ofChange feeOwnersWrong)

/- THE SECOND FORM. 'bulk': how many values and letters a reading holds, each counted each time it is reached (what is shared counts as often as it is met; a slice's spare places count too). A statement '..UptoSaid' is the law's where the arguments, and the package variables that the reading takes, are together of bulk at most 1048576: NARROWER than '..Said'. Prove '..Said' where nothing that the law and all that it calls make is longer than what came in: it says more and counts as full. Else prove '..UptoSaid'. A law counts once. -/
mutual
def uptoBulk {H : Type} : DataW H → Nat
  | .lit (.string bytes) => bytes.length + 1
  | .lit _ => 1
  | .nil => 1
  | .ptr d => uptoBulk d + 1
  | .slice elems spare => uptoBulkAll elems + uptoBulkAll spare + 1
  | .agg parts => uptoBulkAll parts + 1
  | .iface _ d => uptoBulk d + 1
  | .map entries => uptoBulkEntries entries + 1
  | .held _ => 1
def uptoBulkAll {H : Type} : List (DataW H) → Nat
  | [] => 0
  | d :: r => uptoBulk d + uptoBulkAll r
def uptoBulkEntries {H : Type} : List (Lit × DataW H) → Nat
  | [] => 0
  | x :: r => uptoBulkEntry x + uptoBulkEntries r
def uptoBulkEntry {H : Type} : Lit × DataW H → Nat
  | (.string bytes, d) => bytes.length + uptoBulk d + 1
  | (_, d) => uptoBulk d + 1
 end
def uptoSmall : (H : Type) → List (DataW H) → Bool := fun _ ds => decide (uptoBulkAll ds ≤ 1048576)
def OpenSpec.upto (s : _root_.Go.ChangeSpec) : _root_.Go.OpenSpec := { _root_.Go.OpenSpec.ofChange s with cond := some uptoSmall }

/-- 'walkmilllaw12.FeeFees', WHERE WHAT IT READS IS OF BULK AT MOST 1048576: true; the input reads as it did. -/
def feeFeesUptoRow : OpenClaim := { program := "ytdlekcdedahbhaa", sum := "8f1f216ff527f143917f33eb57fe3521a3c08098d942279f262f49a53f96ac13", func := "walkmill/walkmilllaw12.FeeFees", spec := "feeFees", unfollowed := true, recurses := true, plainKeys := false, apart := false, narrowed := true }
def FeeFeesUptoSaid : Prop := feeFeesUptoRow.holds Try.pinned (OpenSpec.upto feeFeesSpec)

/-- 'walkmilllaw12.FeePrices', WHERE WHAT IT READS IS OF BULK AT MOST 1048576: true; the input reads as it did. -/
def feePricesUptoRow : OpenClaim := { program := "ytdlekcdedahbhaa", sum := "8f1f216ff527f143917f33eb57fe3521a3c08098d942279f262f49a53f96ac13", func := "walkmill/walkmilllaw12.FeePrices", spec := "feePrices", unfollowed := true, recurses := true, plainKeys := false, apart := false, narrowed := true }
def FeePricesUptoSaid : Prop := feePricesUptoRow.holds Try.pinned (OpenSpec.upto feePricesSpec)

/-- 'walkmilllaw12.FeeBalances', WHERE WHAT IT READS IS OF BULK AT MOST 1048576: true; the input reads as it did. -/
def feeBalancesUptoRow : OpenClaim := { program := "ytdlekcdedahbhaa", sum := "8f1f216ff527f143917f33eb57fe3521a3c08098d942279f262f49a53f96ac13", func := "walkmill/walkmilllaw12.FeeBalances", spec := "feeBalances", unfollowed := true, recurses := true, plainKeys := false, apart := false, narrowed := true }
def FeeBalancesUptoSaid : Prop := feeBalancesUptoRow.holds Try.pinned (OpenSpec.upto feeBalancesSpec)

/-- 'walkmilllaw12.FeeBooks', WHERE WHAT IT READS IS OF BULK AT MOST 1048576: true; the input reads as it did. -/
def feeBooksUptoRow : OpenClaim := { program := "ytdlekcdedahbhaa", sum := "8f1f216ff527f143917f33eb57fe3521a3c08098d942279f262f49a53f96ac13", func := "walkmill/walkmilllaw12.FeeBooks", spec := "feeBooks", unfollowed := true, recurses := true, plainKeys := false, apart := false, narrowed := true }
def FeeBooksUptoSaid : Prop := feeBooksUptoRow.holds Try.pinned (OpenSpec.upto feeBooksSpec)

/-- 'walkmilllaw12.FeeSlips', WHERE WHAT IT READS IS OF BULK AT MOST 1048576: true; the input reads as it did. -/
def feeSlipsUptoRow : OpenClaim := { program := "ytdlekcdedahbhaa", sum := "8f1f216ff527f143917f33eb57fe3521a3c08098d942279f262f49a53f96ac13", func := "walkmill/walkmilllaw12.FeeSlips", spec := "feeSlips", unfollowed := true, recurses := true, plainKeys := false, apart := false, narrowed := true }
def FeeSlipsUptoSaid : Prop := feeSlipsUptoRow.holds Try.pinned (OpenSpec.upto feeSlipsSpec)

/-- 'walkmilllaw12.FeeFills', WHERE WHAT IT READS IS OF BULK AT MOST 1048576: true; the input reads as it did. -/
def feeFillsUptoRow : OpenClaim := { program := "ytdlekcdedahbhaa", sum := "8f1f216ff527f143917f33eb57fe3521a3c08098d942279f262f49a53f96ac13", func := "walkmill/walkmilllaw12.FeeFills", spec := "feeFills", unfollowed := true, recurses := true, plainKeys := false, apart := false, narrowed := true }
def FeeFillsUptoSaid : Prop := feeFillsUptoRow.holds Try.pinned (OpenSpec.upto feeFillsSpec)

/-- 'walkmilllaw12.FeeSettles', WHERE WHAT IT READS IS OF BULK AT MOST 1048576: true; the input reads as it did. -/
def feeSettlesUptoRow : OpenClaim := { program := "ytdlekcdedahbhaa", sum := "8f1f216ff527f143917f33eb57fe3521a3c08098d942279f262f49a53f96ac13", func := "walkmill/walkmilllaw12.FeeSettles", spec := "feeSettles", unfollowed := true, recurses := true, plainKeys := false, apart := false, narrowed := true }
def FeeSettlesUptoSaid : Prop := feeSettlesUptoRow.holds Try.pinned (OpenSpec.upto feeSettlesSpec)

/-- 'walkmilllaw12.FeeDividends', WHERE WHAT IT READS IS OF BULK AT MOST 1048576: true; the input reads as it did. -/
def feeDividendsUptoRow : OpenClaim := { program := "ytdlekcdedahbhaa", sum := "8f1f216ff527f143917f33eb57fe3521a3c08098d942279f262f49a53f96ac13", func := "walkmill/walkmilllaw12.FeeDividends", spec := "feeDividends", unfollowed := true, recurses := true, plainKeys := false, apart := false, narrowed := true }
def FeeDividendsUptoSaid : Prop := feeDividendsUptoRow.holds Try.pinned (OpenSpec.upto feeDividendsSpec)

/-- 'walkmilllaw12.FeeTrue', WHERE WHAT IT READS IS OF BULK AT MOST 1048576: true; the input reads as it did. -/
def feeTrueUptoRow : OpenClaim := { program := "ytdlekcdedahbhaa", sum := "8f1f216ff527f143917f33eb57fe3521a3c08098d942279f262f49a53f96ac13", func := "walkmill/walkmilllaw12.FeeTrue", spec := "feeTrue", unfollowed := true, recurses := true, plainKeys := false, apart := false, narrowed := true }
def FeeTrueUptoSaid : Prop := feeTrueUptoRow.holds Try.pinned (OpenSpec.upto feeTrueSpec)

/-- 'walkmilllaw12.FeeAdds', WHERE WHAT IT READS IS OF BULK AT MOST 1048576: true; the input reads as it did. -/
def feeAddsUptoRow : OpenClaim := { program := "ytdlekcdedahbhaa", sum := "8f1f216ff527f143917f33eb57fe3521a3c08098d942279f262f49a53f96ac13", func := "walkmill/walkmilllaw12.FeeAdds", spec := "feeAdds", unfollowed := true, recurses := true, plainKeys := false, apart := false, narrowed := true }
def FeeAddsUptoSaid : Prop := feeAddsUptoRow.holds Try.pinned (OpenSpec.upto feeAddsSpec)

/-- 'walkmilllaw12.FeeOnce', WHERE WHAT IT READS IS OF BULK AT MOST 1048576: true; the input reads as it did. -/
def feeOnceUptoRow : OpenClaim := { program := "ytdlekcdedahbhaa", sum := "8f1f216ff527f143917f33eb57fe3521a3c08098d942279f262f49a53f96ac13", func := "walkmill/walkmilllaw12.FeeOnce", spec := "feeOnce", unfollowed := true, recurses := true, plainKeys := false, apart := false, narrowed := true }
def FeeOnceUptoSaid : Prop := feeOnceUptoRow.holds Try.pinned (OpenSpec.upto feeOnceSpec)

/-- 'walkmilllaw12.FeeSlip', WHERE WHAT IT READS IS OF BULK AT MOST 1048576: true; the input reads as it did. -/
def feeSlipUptoRow : OpenClaim := { program := "ytdlekcdedahbhaa", sum := "8f1f216ff527f143917f33eb57fe3521a3c08098d942279f262f49a53f96ac13", func := "walkmill/walkmilllaw12.FeeSlip", spec := "feeSlip", unfollowed := true, recurses := true, plainKeys := false, apart := false, narrowed := true }
def FeeSlipUptoSaid : Prop := feeSlipUptoRow.holds Try.pinned (OpenSpec.upto feeSlipSpec)

/-- 'walkmilllaw12.FeeBlotted', WHERE WHAT IT READS IS OF BULK AT MOST 1048576: true; the input reads as it did. -/
def feeBlottedUptoRow : OpenClaim := { program := "ytdlekcdedahbhaa", sum := "8f1f216ff527f143917f33eb57fe3521a3c08098d942279f262f49a53f96ac13", func := "walkmill/walkmilllaw12.FeeBlotted", spec := "feeBlotted", unfollowed := true, recurses := true, plainKeys := false, apart := false, narrowed := true }
def FeeBlottedUptoSaid : Prop := feeBlottedUptoRow.holds Try.pinned (OpenSpec.upto feeBlottedSpec)

/-- 'walkmilllaw12.FeeSettled', WHERE WHAT IT READS IS OF BULK AT MOST 1048576: true; the input reads as it did. -/
def feeSettledUptoRow : OpenClaim := { program := "ytdlekcdedahbhaa", sum := "8f1f216ff527f143917f33eb57fe3521a3c08098d942279f262f49a53f96ac13", func := "walkmill/walkmilllaw12.FeeSettled", spec := "feeSettled", unfollowed := true, recurses := true, plainKeys := false, apart := false, narrowed := true }
def FeeSettledUptoSaid : Prop := feeSettledUptoRow.holds Try.pinned (OpenSpec.upto feeSettledSpec)

/-- 'walkmilllaw12.FeeOwners', WHERE WHAT IT READS IS OF BULK AT MOST 1048576: true; the input reads as it did. -/
def feeOwnersUptoRow : OpenClaim := { program := "ytdlekcdedahbhaa", sum := "8f1f216ff527f143917f33eb57fe3521a3c08098d942279f262f49a53f96ac13", func := "walkmill/walkmilllaw12.FeeOwners", spec := "feeOwners", unfollowed := true, recurses := true, plainKeys := false, apart := false, narrowed := true }
def FeeOwnersUptoSaid : Prop := feeOwnersUptoRow.holds Try.pinned (OpenSpec.upto feeOwnersSpec)

end Rows
end Go.Proofs.Ytdlekcdedahbhaa
