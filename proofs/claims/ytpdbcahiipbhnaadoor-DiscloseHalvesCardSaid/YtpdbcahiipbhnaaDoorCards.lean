/-
  DERIVED. GIVEN WITH THE SEED: THE CARDS: each row of YtpdbcahiipbhnaaDoorRows.lean that lists a variable, with what it lists TIED to the program's text (the seventh form; the later family's looks); each row that meets fmt, with fmt's text TOLD by the authors' own Lean function (tested against real Go, not proved from fmt's source: count such statements apart). THE CARD IS WHAT COUNTS. Prove the row's statement (the work); the ties are given (YtpdbcahiipbhnaaDoorTie.lean); close each card by the builder's one call (the guide's Derived/Test/ToyasCard.lean, 'card_holds'). Laid BY PROGRAM, IN A SANDBOX (cutbox-door.mjs). By AI agents, Wed Nov 11 2026. No macro, syntax, notation, axiom, sorry.
-/
import Derived.Test.YtpdbcahiipbhnaaDoorRows
import GoSem.ClaimSeven
namespace Go.Proofs.YtpdbcahiipbhnaaDoor
namespace Rows

/-- THE TIED CARD OF 'estoppellaw34.DiscloseMatchesReference'. -/
def discloseMatchesReferenceCard : Claim7 := { stood := { row := discloseMatchesReferenceRow, standIns := [], harness := (true, "9a480fcbf0ecfcc6bc006681ea6b8f35a85eb74ef4a8d573d48e61c0b14d464e"), looks := false }, kinds := [], alts := [], laidByText := true, laidKinds := [.data, .data, .data, .data, .data], laidTests := true, laidLooks := .later }
def DiscloseMatchesReferenceCardSaid : Prop := Claim7.holds Tryd.pinned (.plain (OpenSpec.ofChange discloseMatchesReferenceSpec)) discloseMatchesReferenceCard

/-- THE TIED CARD OF 'estoppellaw34.DiscloseProves'. -/
def discloseProvesCard : Claim7 := { stood := { row := discloseProvesRow, standIns := [], harness := (true, "9a480fcbf0ecfcc6bc006681ea6b8f35a85eb74ef4a8d573d48e61c0b14d464e"), looks := false }, kinds := [], alts := [], laidByText := true, laidKinds := [.data, .data, .data, .data, .data], laidTests := true, laidLooks := .later }
def DiscloseProvesCardSaid : Prop := Claim7.holds Tryd.pinned (.plain (OpenSpec.ofChange discloseProvesSpec)) discloseProvesCard

/-- THE TIED CARD OF 'estoppellaw34.DiscloseNothingElse'. -/
def discloseNothingElseCard : Claim7 := { stood := { row := discloseNothingElseRow, standIns := [], harness := (true, "9a480fcbf0ecfcc6bc006681ea6b8f35a85eb74ef4a8d573d48e61c0b14d464e"), looks := false }, kinds := [], alts := [], laidByText := true, laidKinds := [.data, .data, .data, .data, .data], laidTests := true, laidLooks := .later }
def DiscloseNothingElseCardSaid : Prop := Claim7.holds Tryd.pinned (.plain (OpenSpec.ofChange discloseNothingElseSpec)) discloseNothingElseCard

/-- THE TIED CARD OF 'estoppellaw34.DiscloseLeaves'. -/
def discloseLeavesCard : Claim7 := { stood := { row := discloseLeavesRow, standIns := [], harness := (true, "9a480fcbf0ecfcc6bc006681ea6b8f35a85eb74ef4a8d573d48e61c0b14d464e"), looks := false }, kinds := [], alts := [], laidByText := true, laidKinds := [.data, .data, .data, .data, .data], laidTests := true, laidLooks := .later }
def DiscloseLeavesCardSaid : Prop := Claim7.holds Tryd.pinned (.plain (OpenSpec.ofChange discloseLeavesSpec)) discloseLeavesCard

/-- THE TIED CARD OF 'estoppellaw34.DiscloseHalves'. -/
def discloseHalvesCard : Claim7 := { stood := { row := discloseHalvesRow, standIns := [], harness := (true, "9a480fcbf0ecfcc6bc006681ea6b8f35a85eb74ef4a8d573d48e61c0b14d464e"), looks := false }, kinds := [], alts := [], laidByText := true, laidKinds := [.data, .data, .data, .data, .data], laidTests := true, laidLooks := .later }
def DiscloseHalvesCardSaid : Prop := Claim7.holds Tryd.pinned (.plain (OpenSpec.ofChange discloseHalvesSpec)) discloseHalvesCard

/-- THE TIED CARD OF 'estoppellaw34.DiscloseLengths'. -/
def discloseLengthsCard : Claim7 := { stood := { row := discloseLengthsRow, standIns := [], harness := (true, "9a480fcbf0ecfcc6bc006681ea6b8f35a85eb74ef4a8d573d48e61c0b14d464e"), looks := false }, kinds := [], alts := [], laidByText := true, laidKinds := [.data, .data, .data, .data, .data], laidTests := true, laidLooks := .later }
def DiscloseLengthsCardSaid : Prop := Claim7.holds Tryd.pinned (.plain (OpenSpec.ofChange discloseLengthsSpec)) discloseLengthsCard

/-- THE TIED CARD OF 'estoppellaw34.DiscloseFiles'. -/
def discloseFilesCard : Claim7 := { stood := { row := discloseFilesRow, standIns := [], harness := (true, "9a480fcbf0ecfcc6bc006681ea6b8f35a85eb74ef4a8d573d48e61c0b14d464e"), looks := false }, kinds := [], alts := [], laidByText := true, laidKinds := [.data, .data, .data, .data, .data], laidTests := true, laidLooks := .later }
def DiscloseFilesCardSaid : Prop := Claim7.holds Tryd.pinned (.plain (OpenSpec.ofChange discloseFilesSpec)) discloseFilesCard

/-- THE TIED CARD OF 'estoppellaw31.ChainMatchesReference'. -/
def chainMatchesReferenceCard : Claim7 := { stood := { row := chainMatchesReferenceRow, standIns := [], harness := (true, "9a480fcbf0ecfcc6bc006681ea6b8f35a85eb74ef4a8d573d48e61c0b14d464e"), looks := false }, kinds := [], alts := [], laidByText := true, laidKinds := [.data, .data, .data, .data, .data], laidTests := true, laidLooks := .later }
def ChainMatchesReferenceCardSaid : Prop := Claim7.holds Tryd.pinned (.plain (OpenSpec.ofChange chainMatchesReferenceSpec)) chainMatchesReferenceCard

/-- THE TIED CARD OF 'estoppellaw31.ChainAppends'. -/
def chainAppendsCard : Claim7 := { stood := { row := chainAppendsRow, standIns := [], harness := (true, "9a480fcbf0ecfcc6bc006681ea6b8f35a85eb74ef4a8d573d48e61c0b14d464e"), looks := false }, kinds := [], alts := [], laidByText := true, laidKinds := [.data, .data, .data, .data, .data], laidTests := true, laidLooks := .later }
def ChainAppendsCardSaid : Prop := Claim7.holds Tryd.pinned (.plain (OpenSpec.ofChange chainAppendsSpec)) chainAppendsCard

/-- THE TIED CARD OF 'estoppellaw31.ChainBeginnings'. -/
def chainBeginningsCard : Claim7 := { stood := { row := chainBeginningsRow, standIns := [], harness := (true, "9a480fcbf0ecfcc6bc006681ea6b8f35a85eb74ef4a8d573d48e61c0b14d464e"), looks := false }, kinds := [], alts := [], laidByText := true, laidKinds := [.data, .data, .data, .data, .data], laidTests := true, laidLooks := .later }
def ChainBeginningsCardSaid : Prop := Claim7.holds Tryd.pinned (.plain (OpenSpec.ofChange chainBeginningsSpec)) chainBeginningsCard

/-- THE TIED CARD OF 'estoppellaw31.ChainSame'. -/
def chainSameCard : Claim7 := { stood := { row := chainSameRow, standIns := [], harness := (true, "9a480fcbf0ecfcc6bc006681ea6b8f35a85eb74ef4a8d573d48e61c0b14d464e"), looks := false }, kinds := [], alts := [], laidByText := true, laidKinds := [.data, .data, .data, .data, .data], laidTests := true, laidLooks := .later }
def ChainSameCardSaid : Prop := Claim7.holds Tryd.pinned (.plain (OpenSpec.ofChange chainSameSpec)) chainSameCard

/-- THE TIED CARD OF 'estoppellaw31.ChainForks'. -/
def chainForksCard : Claim7 := { stood := { row := chainForksRow, standIns := [], harness := (true, "9a480fcbf0ecfcc6bc006681ea6b8f35a85eb74ef4a8d573d48e61c0b14d464e"), looks := false }, kinds := [], alts := [], laidByText := true, laidKinds := [.data, .data, .data, .data, .data], laidTests := true, laidLooks := .later }
def ChainForksCardSaid : Prop := Claim7.holds Tryd.pinned (.plain (OpenSpec.ofChange chainForksSpec)) chainForksCard

/-- THE TIED CARD OF 'estoppellaw31.ChainNoFork'. -/
def chainNoForkCard : Claim7 := { stood := { row := chainNoForkRow, standIns := [], harness := (true, "9a480fcbf0ecfcc6bc006681ea6b8f35a85eb74ef4a8d573d48e61c0b14d464e"), looks := false }, kinds := [], alts := [], laidByText := true, laidKinds := [.data, .data, .data, .data, .data], laidTests := true, laidLooks := .later }
def ChainNoForkCardSaid : Prop := Claim7.holds Tryd.pinned (.plain (OpenSpec.ofChange chainNoForkSpec)) chainNoForkCard

/-- THE TIED CARD OF 'estoppellaw31.ChainTexts'. -/
def chainTextsCard : Claim7 := { stood := { row := chainTextsRow, standIns := [], harness := (true, "9a480fcbf0ecfcc6bc006681ea6b8f35a85eb74ef4a8d573d48e61c0b14d464e"), looks := false }, kinds := [], alts := [], laidByText := true, laidKinds := [.data, .data, .data, .data, .data], laidTests := true, laidLooks := .later }
def ChainTextsCardSaid : Prop := Claim7.holds Tryd.pinned (.plain (OpenSpec.ofChange chainTextsSpec)) chainTextsCard

/-- THE TIED CARD OF 'estoppellaw31.ChainKeys'. -/
def chainKeysCard : Claim7 := { stood := { row := chainKeysRow, standIns := [], harness := (true, "9a480fcbf0ecfcc6bc006681ea6b8f35a85eb74ef4a8d573d48e61c0b14d464e"), looks := false }, kinds := [], alts := [], laidByText := true, laidKinds := [.data, .data, .data, .data, .data], laidTests := true, laidLooks := .later }
def ChainKeysCardSaid : Prop := Claim7.holds Tryd.pinned (.plain (OpenSpec.ofChange chainKeysSpec)) chainKeysCard

/-- THE SECOND FORM's CARD OF 'estoppellaw34.DiscloseMatchesReference'. -/
def discloseMatchesReferenceUptoCard : Claim7 := { stood := { row := discloseMatchesReferenceUptoRow, standIns := [], harness := (true, "9a480fcbf0ecfcc6bc006681ea6b8f35a85eb74ef4a8d573d48e61c0b14d464e"), looks := false }, kinds := [], alts := [], laidByText := true, laidKinds := [.data, .data, .data, .data, .data], laidTests := true, laidLooks := .later }
def DiscloseMatchesReferenceUptoCardSaid : Prop := Claim7.holds Tryd.pinned (.plain (OpenSpec.upto discloseMatchesReferenceSpec)) discloseMatchesReferenceUptoCard

/-- THE SECOND FORM's CARD OF 'estoppellaw34.DiscloseProves'. -/
def discloseProvesUptoCard : Claim7 := { stood := { row := discloseProvesUptoRow, standIns := [], harness := (true, "9a480fcbf0ecfcc6bc006681ea6b8f35a85eb74ef4a8d573d48e61c0b14d464e"), looks := false }, kinds := [], alts := [], laidByText := true, laidKinds := [.data, .data, .data, .data, .data], laidTests := true, laidLooks := .later }
def DiscloseProvesUptoCardSaid : Prop := Claim7.holds Tryd.pinned (.plain (OpenSpec.upto discloseProvesSpec)) discloseProvesUptoCard

/-- THE SECOND FORM's CARD OF 'estoppellaw34.DiscloseNothingElse'. -/
def discloseNothingElseUptoCard : Claim7 := { stood := { row := discloseNothingElseUptoRow, standIns := [], harness := (true, "9a480fcbf0ecfcc6bc006681ea6b8f35a85eb74ef4a8d573d48e61c0b14d464e"), looks := false }, kinds := [], alts := [], laidByText := true, laidKinds := [.data, .data, .data, .data, .data], laidTests := true, laidLooks := .later }
def DiscloseNothingElseUptoCardSaid : Prop := Claim7.holds Tryd.pinned (.plain (OpenSpec.upto discloseNothingElseSpec)) discloseNothingElseUptoCard

/-- THE SECOND FORM's CARD OF 'estoppellaw34.DiscloseLeaves'. -/
def discloseLeavesUptoCard : Claim7 := { stood := { row := discloseLeavesUptoRow, standIns := [], harness := (true, "9a480fcbf0ecfcc6bc006681ea6b8f35a85eb74ef4a8d573d48e61c0b14d464e"), looks := false }, kinds := [], alts := [], laidByText := true, laidKinds := [.data, .data, .data, .data, .data], laidTests := true, laidLooks := .later }
def DiscloseLeavesUptoCardSaid : Prop := Claim7.holds Tryd.pinned (.plain (OpenSpec.upto discloseLeavesSpec)) discloseLeavesUptoCard

/-- THE SECOND FORM's CARD OF 'estoppellaw34.DiscloseHalves'. -/
def discloseHalvesUptoCard : Claim7 := { stood := { row := discloseHalvesUptoRow, standIns := [], harness := (true, "9a480fcbf0ecfcc6bc006681ea6b8f35a85eb74ef4a8d573d48e61c0b14d464e"), looks := false }, kinds := [], alts := [], laidByText := true, laidKinds := [.data, .data, .data, .data, .data], laidTests := true, laidLooks := .later }
def DiscloseHalvesUptoCardSaid : Prop := Claim7.holds Tryd.pinned (.plain (OpenSpec.upto discloseHalvesSpec)) discloseHalvesUptoCard

/-- THE SECOND FORM's CARD OF 'estoppellaw34.DiscloseLengths'. -/
def discloseLengthsUptoCard : Claim7 := { stood := { row := discloseLengthsUptoRow, standIns := [], harness := (true, "9a480fcbf0ecfcc6bc006681ea6b8f35a85eb74ef4a8d573d48e61c0b14d464e"), looks := false }, kinds := [], alts := [], laidByText := true, laidKinds := [.data, .data, .data, .data, .data], laidTests := true, laidLooks := .later }
def DiscloseLengthsUptoCardSaid : Prop := Claim7.holds Tryd.pinned (.plain (OpenSpec.upto discloseLengthsSpec)) discloseLengthsUptoCard

/-- THE SECOND FORM's CARD OF 'estoppellaw34.DiscloseFiles'. -/
def discloseFilesUptoCard : Claim7 := { stood := { row := discloseFilesUptoRow, standIns := [], harness := (true, "9a480fcbf0ecfcc6bc006681ea6b8f35a85eb74ef4a8d573d48e61c0b14d464e"), looks := false }, kinds := [], alts := [], laidByText := true, laidKinds := [.data, .data, .data, .data, .data], laidTests := true, laidLooks := .later }
def DiscloseFilesUptoCardSaid : Prop := Claim7.holds Tryd.pinned (.plain (OpenSpec.upto discloseFilesSpec)) discloseFilesUptoCard

/-- THE SECOND FORM's CARD OF 'estoppellaw31.ChainMatchesReference'. -/
def chainMatchesReferenceUptoCard : Claim7 := { stood := { row := chainMatchesReferenceUptoRow, standIns := [], harness := (true, "9a480fcbf0ecfcc6bc006681ea6b8f35a85eb74ef4a8d573d48e61c0b14d464e"), looks := false }, kinds := [], alts := [], laidByText := true, laidKinds := [.data, .data, .data, .data, .data], laidTests := true, laidLooks := .later }
def ChainMatchesReferenceUptoCardSaid : Prop := Claim7.holds Tryd.pinned (.plain (OpenSpec.upto chainMatchesReferenceSpec)) chainMatchesReferenceUptoCard

/-- THE SECOND FORM's CARD OF 'estoppellaw31.ChainAppends'. -/
def chainAppendsUptoCard : Claim7 := { stood := { row := chainAppendsUptoRow, standIns := [], harness := (true, "9a480fcbf0ecfcc6bc006681ea6b8f35a85eb74ef4a8d573d48e61c0b14d464e"), looks := false }, kinds := [], alts := [], laidByText := true, laidKinds := [.data, .data, .data, .data, .data], laidTests := true, laidLooks := .later }
def ChainAppendsUptoCardSaid : Prop := Claim7.holds Tryd.pinned (.plain (OpenSpec.upto chainAppendsSpec)) chainAppendsUptoCard

/-- THE SECOND FORM's CARD OF 'estoppellaw31.ChainBeginnings'. -/
def chainBeginningsUptoCard : Claim7 := { stood := { row := chainBeginningsUptoRow, standIns := [], harness := (true, "9a480fcbf0ecfcc6bc006681ea6b8f35a85eb74ef4a8d573d48e61c0b14d464e"), looks := false }, kinds := [], alts := [], laidByText := true, laidKinds := [.data, .data, .data, .data, .data], laidTests := true, laidLooks := .later }
def ChainBeginningsUptoCardSaid : Prop := Claim7.holds Tryd.pinned (.plain (OpenSpec.upto chainBeginningsSpec)) chainBeginningsUptoCard

/-- THE SECOND FORM's CARD OF 'estoppellaw31.ChainSame'. -/
def chainSameUptoCard : Claim7 := { stood := { row := chainSameUptoRow, standIns := [], harness := (true, "9a480fcbf0ecfcc6bc006681ea6b8f35a85eb74ef4a8d573d48e61c0b14d464e"), looks := false }, kinds := [], alts := [], laidByText := true, laidKinds := [.data, .data, .data, .data, .data], laidTests := true, laidLooks := .later }
def ChainSameUptoCardSaid : Prop := Claim7.holds Tryd.pinned (.plain (OpenSpec.upto chainSameSpec)) chainSameUptoCard

/-- THE SECOND FORM's CARD OF 'estoppellaw31.ChainForks'. -/
def chainForksUptoCard : Claim7 := { stood := { row := chainForksUptoRow, standIns := [], harness := (true, "9a480fcbf0ecfcc6bc006681ea6b8f35a85eb74ef4a8d573d48e61c0b14d464e"), looks := false }, kinds := [], alts := [], laidByText := true, laidKinds := [.data, .data, .data, .data, .data], laidTests := true, laidLooks := .later }
def ChainForksUptoCardSaid : Prop := Claim7.holds Tryd.pinned (.plain (OpenSpec.upto chainForksSpec)) chainForksUptoCard

/-- THE SECOND FORM's CARD OF 'estoppellaw31.ChainNoFork'. -/
def chainNoForkUptoCard : Claim7 := { stood := { row := chainNoForkUptoRow, standIns := [], harness := (true, "9a480fcbf0ecfcc6bc006681ea6b8f35a85eb74ef4a8d573d48e61c0b14d464e"), looks := false }, kinds := [], alts := [], laidByText := true, laidKinds := [.data, .data, .data, .data, .data], laidTests := true, laidLooks := .later }
def ChainNoForkUptoCardSaid : Prop := Claim7.holds Tryd.pinned (.plain (OpenSpec.upto chainNoForkSpec)) chainNoForkUptoCard

/-- THE SECOND FORM's CARD OF 'estoppellaw31.ChainTexts'. -/
def chainTextsUptoCard : Claim7 := { stood := { row := chainTextsUptoRow, standIns := [], harness := (true, "9a480fcbf0ecfcc6bc006681ea6b8f35a85eb74ef4a8d573d48e61c0b14d464e"), looks := false }, kinds := [], alts := [], laidByText := true, laidKinds := [.data, .data, .data, .data, .data], laidTests := true, laidLooks := .later }
def ChainTextsUptoCardSaid : Prop := Claim7.holds Tryd.pinned (.plain (OpenSpec.upto chainTextsSpec)) chainTextsUptoCard

/-- THE SECOND FORM's CARD OF 'estoppellaw31.ChainKeys'. -/
def chainKeysUptoCard : Claim7 := { stood := { row := chainKeysUptoRow, standIns := [], harness := (true, "9a480fcbf0ecfcc6bc006681ea6b8f35a85eb74ef4a8d573d48e61c0b14d464e"), looks := false }, kinds := [], alts := [], laidByText := true, laidKinds := [.data, .data, .data, .data, .data], laidTests := true, laidLooks := .later }
def ChainKeysUptoCardSaid : Prop := Claim7.holds Tryd.pinned (.plain (OpenSpec.upto chainKeysSpec)) chainKeysUptoCard
end Rows
end Go.Proofs.YtpdbcahiipbhnaaDoor
