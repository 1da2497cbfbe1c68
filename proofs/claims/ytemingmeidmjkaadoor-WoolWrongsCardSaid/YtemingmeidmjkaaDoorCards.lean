/-
  DERIVED. GIVEN WITH THE SEED: THE CARDS: each row of YtemingmeidmjkaaDoorRows.lean that lists a variable, with what it lists TIED to the program's text (the seventh form; the later family's looks); each row that meets fmt, with fmt's text TOLD by the authors' own Lean function (tested against real Go, not proved from fmt's source: count such statements apart). THE CARD IS WHAT COUNTS. Prove the row's statement (the work); the ties are given (YtemingmeidmjkaaDoorTie.lean); close each card by the builder's one call (the guide's Derived/Test/ToyasCard.lean, 'card_holds'). Laid BY PROGRAM, IN A SANDBOX (cutbox-door.mjs). By AI agents, Wed Nov 11 2026. No macro, syntax, notation, axiom, sorry.
-/
import Derived.Test.YtemingmeidmjkaaDoorRows
import GoSem.ClaimSeven
namespace Go.Proofs.YtemingmeidmjkaaDoor
namespace Rows

/-- THE TIED CARD OF 'walkmilllaw10.WoolWeights'. -/
def woolWeightsCard : Claim7 := { stood := { row := woolWeightsRow, standIns := [], harness := (true, "4414eac84357f4f653d35a949faad7c115e7246aabf006f52f73198ce3798b10"), looks := false }, kinds := [], alts := [], laidByText := true, laidKinds := [.data], laidTests := true, laidLooks := .later }
def WoolWeightsCardSaid : Prop := Claim7.holds Tryd.pinned (.plain (OpenSpec.ofChange woolWeightsSpec)) woolWeightsCard

/-- THE TIED CARD OF 'walkmilllaw10.WoolMisses'. -/
def woolMissesCard : Claim7 := { stood := { row := woolMissesRow, standIns := [], harness := (true, "4414eac84357f4f653d35a949faad7c115e7246aabf006f52f73198ce3798b10"), looks := false }, kinds := [], alts := [], laidByText := true, laidKinds := [.data], laidTests := true, laidLooks := .later }
def WoolMissesCardSaid : Prop := Claim7.holds Tryd.pinned (.plain (OpenSpec.ofChange woolMissesSpec)) woolMissesCard

/-- THE TIED CARD OF 'walkmilllaw10.WoolWheres'. -/
def woolWheresCard : Claim7 := { stood := { row := woolWheresRow, standIns := [], harness := (true, "4414eac84357f4f653d35a949faad7c115e7246aabf006f52f73198ce3798b10"), looks := false }, kinds := [], alts := [], laidByText := true, laidKinds := [.data], laidTests := true, laidLooks := .later }
def WoolWheresCardSaid : Prop := Claim7.holds Tryd.pinned (.plain (OpenSpec.ofChange woolWheresSpec)) woolWheresCard

/-- THE TIED CARD OF 'walkmilllaw10.WoolWrongs'. -/
def woolWrongsCard : Claim7 := { stood := { row := woolWrongsRow, standIns := [], harness := (true, "4414eac84357f4f653d35a949faad7c115e7246aabf006f52f73198ce3798b10"), looks := false }, kinds := [], alts := [], laidByText := true, laidKinds := [.data], laidTests := true, laidLooks := .later }
def WoolWrongsCardSaid : Prop := Claim7.holds Tryd.pinned (.plain (OpenSpec.ofChange woolWrongsSpec)) woolWrongsCard

/-- THE TIED CARD OF 'walkmilllaw10.WoolLooks'. -/
def woolLooksCard : Claim7 := { stood := { row := woolLooksRow, standIns := [], harness := (true, "4414eac84357f4f653d35a949faad7c115e7246aabf006f52f73198ce3798b10"), looks := false }, kinds := [], alts := [], laidByText := true, laidKinds := [.data], laidTests := true, laidLooks := .later }
def WoolLooksCardSaid : Prop := Claim7.holds Tryd.pinned (.plain (OpenSpec.ofChange woolLooksSpec)) woolLooksCard

/-- THE TIED CARD OF 'walkmilllaw10.WoolCommons'. -/
def woolCommonsCard : Claim7 := { stood := { row := woolCommonsRow, standIns := [], harness := (true, "4414eac84357f4f653d35a949faad7c115e7246aabf006f52f73198ce3798b10"), looks := false }, kinds := [], alts := [], laidByText := true, laidKinds := [.data], laidTests := true, laidLooks := .later }
def WoolCommonsCardSaid : Prop := Claim7.holds Tryd.pinned (.plain (OpenSpec.ofChange woolCommonsSpec)) woolCommonsCard

/-- THE TIED CARD OF 'walkmilllaw10.WoolNeeds'. -/
def woolNeedsCard : Claim7 := { stood := { row := woolNeedsRow, standIns := [], harness := (true, "4414eac84357f4f653d35a949faad7c115e7246aabf006f52f73198ce3798b10"), looks := false }, kinds := [], alts := [], laidByText := true, laidKinds := [.data], laidTests := true, laidLooks := .later }
def WoolNeedsCardSaid : Prop := Claim7.holds Tryd.pinned (.plain (OpenSpec.ofChange woolNeedsSpec)) woolNeedsCard

/-- THE TIED CARD OF 'walkmilllaw10.WoolTruth'. -/
def woolTruthCard : Claim7 := { stood := { row := woolTruthRow, standIns := [], harness := (true, "4414eac84357f4f653d35a949faad7c115e7246aabf006f52f73198ce3798b10"), looks := false }, kinds := [], alts := [], laidByText := true, laidKinds := [.data], laidTests := true, laidLooks := .later }
def WoolTruthCardSaid : Prop := Claim7.holds Tryd.pinned (.plain (OpenSpec.ofChange woolTruthSpec)) woolTruthCard

/-- THE TIED CARD OF 'walkmilllaw10.WoolThief'. -/
def woolThiefCard : Claim7 := { stood := { row := woolThiefRow, standIns := [], harness := (true, "4414eac84357f4f653d35a949faad7c115e7246aabf006f52f73198ce3798b10"), looks := false }, kinds := [], alts := [], laidByText := true, laidKinds := [.data], laidTests := true, laidLooks := .later }
def WoolThiefCardSaid : Prop := Claim7.holds Tryd.pinned (.plain (OpenSpec.ofChange woolThiefSpec)) woolThiefCard

/-- THE TIED CARD OF 'walkmilllaw10.WoolMore'. -/
def woolMoreCard : Claim7 := { stood := { row := woolMoreRow, standIns := [], harness := (true, "4414eac84357f4f653d35a949faad7c115e7246aabf006f52f73198ce3798b10"), looks := false }, kinds := [], alts := [], laidByText := true, laidKinds := [.data], laidTests := true, laidLooks := .later }
def WoolMoreCardSaid : Prop := Claim7.holds Tryd.pinned (.plain (OpenSpec.ofChange woolMoreSpec)) woolMoreCard

/-- THE TIED CARD OF 'walkmilllaw10.WoolSpoilt'. -/
def woolSpoiltCard : Claim7 := { stood := { row := woolSpoiltRow, standIns := [], harness := (true, "4414eac84357f4f653d35a949faad7c115e7246aabf006f52f73198ce3798b10"), looks := false }, kinds := [], alts := [], laidByText := true, laidKinds := [.data], laidTests := true, laidLooks := .later }
def WoolSpoiltCardSaid : Prop := Claim7.holds Tryd.pinned (.plain (OpenSpec.ofChange woolSpoiltSpec)) woolSpoiltCard

/-- THE TIED CARD OF 'walkmilllaw10.WoolNext'. -/
def woolNextCard : Claim7 := { stood := { row := woolNextRow, standIns := [], harness := (true, "4414eac84357f4f653d35a949faad7c115e7246aabf006f52f73198ce3798b10"), looks := false }, kinds := [], alts := [], laidByText := true, laidKinds := [.data], laidTests := true, laidLooks := .later }
def WoolNextCardSaid : Prop := Claim7.holds Tryd.pinned (.plain (OpenSpec.ofChange woolNextSpec)) woolNextCard

/-- THE TIED CARD OF 'walkmilllaw10.WoolEnough'. -/
def woolEnoughCard : Claim7 := { stood := { row := woolEnoughRow, standIns := [], harness := (true, "4414eac84357f4f653d35a949faad7c115e7246aabf006f52f73198ce3798b10"), looks := false }, kinds := [], alts := [], laidByText := true, laidKinds := [.data], laidTests := true, laidLooks := .later }
def WoolEnoughCardSaid : Prop := Claim7.holds Tryd.pinned (.plain (OpenSpec.ofChange woolEnoughSpec)) woolEnoughCard

/-- THE SECOND FORM's CARD OF 'walkmilllaw10.WoolWeights'. -/
def woolWeightsUptoCard : Claim7 := { stood := { row := woolWeightsUptoRow, standIns := [], harness := (true, "4414eac84357f4f653d35a949faad7c115e7246aabf006f52f73198ce3798b10"), looks := false }, kinds := [], alts := [], laidByText := true, laidKinds := [.data], laidTests := true, laidLooks := .later }
def WoolWeightsUptoCardSaid : Prop := Claim7.holds Tryd.pinned (.plain (OpenSpec.upto woolWeightsSpec)) woolWeightsUptoCard

/-- THE SECOND FORM's CARD OF 'walkmilllaw10.WoolMisses'. -/
def woolMissesUptoCard : Claim7 := { stood := { row := woolMissesUptoRow, standIns := [], harness := (true, "4414eac84357f4f653d35a949faad7c115e7246aabf006f52f73198ce3798b10"), looks := false }, kinds := [], alts := [], laidByText := true, laidKinds := [.data], laidTests := true, laidLooks := .later }
def WoolMissesUptoCardSaid : Prop := Claim7.holds Tryd.pinned (.plain (OpenSpec.upto woolMissesSpec)) woolMissesUptoCard

/-- THE SECOND FORM's CARD OF 'walkmilllaw10.WoolWheres'. -/
def woolWheresUptoCard : Claim7 := { stood := { row := woolWheresUptoRow, standIns := [], harness := (true, "4414eac84357f4f653d35a949faad7c115e7246aabf006f52f73198ce3798b10"), looks := false }, kinds := [], alts := [], laidByText := true, laidKinds := [.data], laidTests := true, laidLooks := .later }
def WoolWheresUptoCardSaid : Prop := Claim7.holds Tryd.pinned (.plain (OpenSpec.upto woolWheresSpec)) woolWheresUptoCard

/-- THE SECOND FORM's CARD OF 'walkmilllaw10.WoolWrongs'. -/
def woolWrongsUptoCard : Claim7 := { stood := { row := woolWrongsUptoRow, standIns := [], harness := (true, "4414eac84357f4f653d35a949faad7c115e7246aabf006f52f73198ce3798b10"), looks := false }, kinds := [], alts := [], laidByText := true, laidKinds := [.data], laidTests := true, laidLooks := .later }
def WoolWrongsUptoCardSaid : Prop := Claim7.holds Tryd.pinned (.plain (OpenSpec.upto woolWrongsSpec)) woolWrongsUptoCard

/-- THE SECOND FORM's CARD OF 'walkmilllaw10.WoolLooks'. -/
def woolLooksUptoCard : Claim7 := { stood := { row := woolLooksUptoRow, standIns := [], harness := (true, "4414eac84357f4f653d35a949faad7c115e7246aabf006f52f73198ce3798b10"), looks := false }, kinds := [], alts := [], laidByText := true, laidKinds := [.data], laidTests := true, laidLooks := .later }
def WoolLooksUptoCardSaid : Prop := Claim7.holds Tryd.pinned (.plain (OpenSpec.upto woolLooksSpec)) woolLooksUptoCard

/-- THE SECOND FORM's CARD OF 'walkmilllaw10.WoolCommons'. -/
def woolCommonsUptoCard : Claim7 := { stood := { row := woolCommonsUptoRow, standIns := [], harness := (true, "4414eac84357f4f653d35a949faad7c115e7246aabf006f52f73198ce3798b10"), looks := false }, kinds := [], alts := [], laidByText := true, laidKinds := [.data], laidTests := true, laidLooks := .later }
def WoolCommonsUptoCardSaid : Prop := Claim7.holds Tryd.pinned (.plain (OpenSpec.upto woolCommonsSpec)) woolCommonsUptoCard

/-- THE SECOND FORM's CARD OF 'walkmilllaw10.WoolNeeds'. -/
def woolNeedsUptoCard : Claim7 := { stood := { row := woolNeedsUptoRow, standIns := [], harness := (true, "4414eac84357f4f653d35a949faad7c115e7246aabf006f52f73198ce3798b10"), looks := false }, kinds := [], alts := [], laidByText := true, laidKinds := [.data], laidTests := true, laidLooks := .later }
def WoolNeedsUptoCardSaid : Prop := Claim7.holds Tryd.pinned (.plain (OpenSpec.upto woolNeedsSpec)) woolNeedsUptoCard

/-- THE SECOND FORM's CARD OF 'walkmilllaw10.WoolTruth'. -/
def woolTruthUptoCard : Claim7 := { stood := { row := woolTruthUptoRow, standIns := [], harness := (true, "4414eac84357f4f653d35a949faad7c115e7246aabf006f52f73198ce3798b10"), looks := false }, kinds := [], alts := [], laidByText := true, laidKinds := [.data], laidTests := true, laidLooks := .later }
def WoolTruthUptoCardSaid : Prop := Claim7.holds Tryd.pinned (.plain (OpenSpec.upto woolTruthSpec)) woolTruthUptoCard

/-- THE SECOND FORM's CARD OF 'walkmilllaw10.WoolThief'. -/
def woolThiefUptoCard : Claim7 := { stood := { row := woolThiefUptoRow, standIns := [], harness := (true, "4414eac84357f4f653d35a949faad7c115e7246aabf006f52f73198ce3798b10"), looks := false }, kinds := [], alts := [], laidByText := true, laidKinds := [.data], laidTests := true, laidLooks := .later }
def WoolThiefUptoCardSaid : Prop := Claim7.holds Tryd.pinned (.plain (OpenSpec.upto woolThiefSpec)) woolThiefUptoCard

/-- THE SECOND FORM's CARD OF 'walkmilllaw10.WoolMore'. -/
def woolMoreUptoCard : Claim7 := { stood := { row := woolMoreUptoRow, standIns := [], harness := (true, "4414eac84357f4f653d35a949faad7c115e7246aabf006f52f73198ce3798b10"), looks := false }, kinds := [], alts := [], laidByText := true, laidKinds := [.data], laidTests := true, laidLooks := .later }
def WoolMoreUptoCardSaid : Prop := Claim7.holds Tryd.pinned (.plain (OpenSpec.upto woolMoreSpec)) woolMoreUptoCard

/-- THE SECOND FORM's CARD OF 'walkmilllaw10.WoolSpoilt'. -/
def woolSpoiltUptoCard : Claim7 := { stood := { row := woolSpoiltUptoRow, standIns := [], harness := (true, "4414eac84357f4f653d35a949faad7c115e7246aabf006f52f73198ce3798b10"), looks := false }, kinds := [], alts := [], laidByText := true, laidKinds := [.data], laidTests := true, laidLooks := .later }
def WoolSpoiltUptoCardSaid : Prop := Claim7.holds Tryd.pinned (.plain (OpenSpec.upto woolSpoiltSpec)) woolSpoiltUptoCard

/-- THE SECOND FORM's CARD OF 'walkmilllaw10.WoolNext'. -/
def woolNextUptoCard : Claim7 := { stood := { row := woolNextUptoRow, standIns := [], harness := (true, "4414eac84357f4f653d35a949faad7c115e7246aabf006f52f73198ce3798b10"), looks := false }, kinds := [], alts := [], laidByText := true, laidKinds := [.data], laidTests := true, laidLooks := .later }
def WoolNextUptoCardSaid : Prop := Claim7.holds Tryd.pinned (.plain (OpenSpec.upto woolNextSpec)) woolNextUptoCard

/-- THE SECOND FORM's CARD OF 'walkmilllaw10.WoolEnough'. -/
def woolEnoughUptoCard : Claim7 := { stood := { row := woolEnoughUptoRow, standIns := [], harness := (true, "4414eac84357f4f653d35a949faad7c115e7246aabf006f52f73198ce3798b10"), looks := false }, kinds := [], alts := [], laidByText := true, laidKinds := [.data], laidTests := true, laidLooks := .later }
def WoolEnoughUptoCardSaid : Prop := Claim7.holds Tryd.pinned (.plain (OpenSpec.upto woolEnoughSpec)) woolEnoughUptoCard
end Rows
end Go.Proofs.YtemingmeidmjkaaDoor
