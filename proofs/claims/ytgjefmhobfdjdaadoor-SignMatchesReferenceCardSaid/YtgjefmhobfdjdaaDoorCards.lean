/-
  DERIVED. GIVEN WITH THE SEED: THE CARDS: each row of YtgjefmhobfdjdaaDoorRows.lean that lists a variable, with what it lists TIED to the program's text (the seventh form; the later family's looks); each row that meets fmt, with fmt's text TOLD by the authors' own Lean function (tested against real Go, not proved from fmt's source: count such statements apart). THE CARD IS WHAT COUNTS. Prove the row's statement (the work); the ties are given (YtgjefmhobfdjdaaDoorTie.lean); close each card by the builder's one call (the guide's Derived/Test/ToyasCard.lean, 'card_holds'). Laid BY PROGRAM, IN A SANDBOX (cutbox-door.mjs). By AI agents, Wed Nov 11 2026. No macro, syntax, notation, axiom, sorry.
-/
import Derived.Test.YtgjefmhobfdjdaaDoorRows
import GoSem.ClaimSeven
namespace Go.Proofs.YtgjefmhobfdjdaaDoor
namespace Rows

/-- THE TIED CARD OF 'estoppellaw28.DigestMatchesReference'. -/
def digestMatchesReferenceCard : Claim7 := { stood := { row := digestMatchesReferenceRow, standIns := [], harness := (true, "6322fb08ba22c3f1a8f79c298375e51f682f039812770f0e129dcaa76c87eed4"), looks := false }, kinds := [], alts := [], laidByText := true, laidKinds := [.data, .data, .data, .data, .data], laidTests := true, laidLooks := .later }
def DigestMatchesReferenceCardSaid : Prop := Claim7.holds Tryd.pinned (.plain (OpenSpec.ofChange digestMatchesReferenceSpec)) digestMatchesReferenceCard

/-- THE TIED CARD OF 'estoppellaw28.DigestForm'. -/
def digestFormCard : Claim7 := { stood := { row := digestFormRow, standIns := [], harness := (true, "6322fb08ba22c3f1a8f79c298375e51f682f039812770f0e129dcaa76c87eed4"), looks := false }, kinds := [], alts := [], laidByText := true, laidKinds := [.data, .data, .data, .data, .data], laidTests := true, laidLooks := .later }
def DigestFormCardSaid : Prop := Claim7.holds Tryd.pinned (.plain (OpenSpec.ofChange digestFormSpec)) digestFormCard

/-- THE TIED CARD OF 'estoppellaw28.DigestNumbers'. -/
def digestNumbersCard : Claim7 := { stood := { row := digestNumbersRow, standIns := [], harness := (true, "6322fb08ba22c3f1a8f79c298375e51f682f039812770f0e129dcaa76c87eed4"), looks := false }, kinds := [], alts := [], laidByText := true, laidKinds := [.data, .data, .data, .data, .data], laidTests := true, laidLooks := .later }
def DigestNumbersCardSaid : Prop := Claim7.holds Tryd.pinned (.plain (OpenSpec.ofChange digestNumbersSpec)) digestNumbersCard

/-- THE TIED CARD OF 'estoppellaw28.DigestDigits'. -/
def digestDigitsCard : Claim7 := { stood := { row := digestDigitsRow, standIns := [], harness := (true, "6322fb08ba22c3f1a8f79c298375e51f682f039812770f0e129dcaa76c87eed4"), looks := false }, kinds := [], alts := [], laidByText := true, laidKinds := [.data, .data, .data, .data, .data], laidTests := true, laidLooks := .later }
def DigestDigitsCardSaid : Prop := Claim7.holds Tryd.pinned (.plain (OpenSpec.ofChange digestDigitsSpec)) digestDigitsCard

/-- THE TIED CARD OF 'estoppellaw28.DigestDifferent'. -/
def digestDifferentCard : Claim7 := { stood := { row := digestDifferentRow, standIns := [], harness := (true, "6322fb08ba22c3f1a8f79c298375e51f682f039812770f0e129dcaa76c87eed4"), looks := false }, kinds := [], alts := [], laidByText := true, laidKinds := [.data, .data, .data, .data, .data], laidTests := true, laidLooks := .later }
def DigestDifferentCardSaid : Prop := Claim7.holds Tryd.pinned (.plain (OpenSpec.ofChange digestDifferentSpec)) digestDifferentCard

/-- THE TIED CARD OF 'estoppellaw29.SignMatchesReference'. -/
def signMatchesReferenceCard : Claim7 := { stood := { row := signMatchesReferenceRow, standIns := [], harness := (true, "6322fb08ba22c3f1a8f79c298375e51f682f039812770f0e129dcaa76c87eed4"), looks := false }, kinds := [], alts := [], laidByText := true, laidKinds := [.data, .data, .data, .data, .data], laidTests := true, laidLooks := .later }
def SignMatchesReferenceCardSaid : Prop := Claim7.holds Tryd.pinned (.plain (OpenSpec.ofChange signMatchesReferenceSpec)) signMatchesReferenceCard

/-- THE TIED CARD OF 'estoppellaw29.SignVerifies'. -/
def signVerifiesCard : Claim7 := { stood := { row := signVerifiesRow, standIns := [], harness := (true, "6322fb08ba22c3f1a8f79c298375e51f682f039812770f0e129dcaa76c87eed4"), looks := false }, kinds := [], alts := [], laidByText := true, laidKinds := [.data, .data, .data, .data, .data], laidTests := true, laidLooks := .later }
def SignVerifiesCardSaid : Prop := Claim7.holds Tryd.pinned (.plain (OpenSpec.ofChange signVerifiesSpec)) signVerifiesCard

/-- THE TIED CARD OF 'estoppellaw29.SignEquation'. -/
def signEquationCard : Claim7 := { stood := { row := signEquationRow, standIns := [], harness := (true, "6322fb08ba22c3f1a8f79c298375e51f682f039812770f0e129dcaa76c87eed4"), looks := false }, kinds := [], alts := [], laidByText := true, laidKinds := [.data, .data, .data, .data, .data], laidTests := true, laidLooks := .later }
def SignEquationCardSaid : Prop := Claim7.holds Tryd.pinned (.plain (OpenSpec.ofChange signEquationSpec)) signEquationCard

/-- THE TIED CARD OF 'estoppellaw29.SignOnce'. -/
def signOnceCard : Claim7 := { stood := { row := signOnceRow, standIns := [], harness := (true, "6322fb08ba22c3f1a8f79c298375e51f682f039812770f0e129dcaa76c87eed4"), looks := false }, kinds := [], alts := [], laidByText := true, laidKinds := [.data, .data, .data, .data, .data], laidTests := true, laidLooks := .later }
def SignOnceCardSaid : Prop := Claim7.holds Tryd.pinned (.plain (OpenSpec.ofChange signOnceSpec)) signOnceCard

/-- THE TIED CARD OF 'estoppellaw29.SignPowers'. -/
def signPowersCard : Claim7 := { stood := { row := signPowersRow, standIns := [], harness := (true, "6322fb08ba22c3f1a8f79c298375e51f682f039812770f0e129dcaa76c87eed4"), looks := false }, kinds := [], alts := [], laidByText := true, laidKinds := [.data, .data, .data, .data, .data], laidTests := true, laidLooks := .later }
def SignPowersCardSaid : Prop := Claim7.holds Tryd.pinned (.plain (OpenSpec.ofChange signPowersSpec)) signPowersCard

/-- THE TIED CARD OF 'estoppellaw29.SignKeys'. -/
def signKeysCard : Claim7 := { stood := { row := signKeysRow, standIns := [], harness := (true, "6322fb08ba22c3f1a8f79c298375e51f682f039812770f0e129dcaa76c87eed4"), looks := false }, kinds := [], alts := [], laidByText := true, laidKinds := [.data, .data, .data, .data, .data], laidTests := true, laidLooks := .later }
def SignKeysCardSaid : Prop := Claim7.holds Tryd.pinned (.plain (OpenSpec.ofChange signKeysSpec)) signKeysCard

/-- THE TIED CARD OF 'estoppellaw29.SignTexts'. -/
def signTextsCard : Claim7 := { stood := { row := signTextsRow, standIns := [], harness := (true, "6322fb08ba22c3f1a8f79c298375e51f682f039812770f0e129dcaa76c87eed4"), looks := false }, kinds := [], alts := [], laidByText := true, laidKinds := [.data, .data, .data, .data, .data], laidTests := true, laidLooks := .later }
def SignTextsCardSaid : Prop := Claim7.holds Tryd.pinned (.plain (OpenSpec.ofChange signTextsSpec)) signTextsCard

/-- THE SECOND FORM's CARD OF 'estoppellaw28.DigestMatchesReference'. -/
def digestMatchesReferenceUptoCard : Claim7 := { stood := { row := digestMatchesReferenceUptoRow, standIns := [], harness := (true, "6322fb08ba22c3f1a8f79c298375e51f682f039812770f0e129dcaa76c87eed4"), looks := false }, kinds := [], alts := [], laidByText := true, laidKinds := [.data, .data, .data, .data, .data], laidTests := true, laidLooks := .later }
def DigestMatchesReferenceUptoCardSaid : Prop := Claim7.holds Tryd.pinned (.plain (OpenSpec.upto digestMatchesReferenceSpec)) digestMatchesReferenceUptoCard

/-- THE SECOND FORM's CARD OF 'estoppellaw28.DigestForm'. -/
def digestFormUptoCard : Claim7 := { stood := { row := digestFormUptoRow, standIns := [], harness := (true, "6322fb08ba22c3f1a8f79c298375e51f682f039812770f0e129dcaa76c87eed4"), looks := false }, kinds := [], alts := [], laidByText := true, laidKinds := [.data, .data, .data, .data, .data], laidTests := true, laidLooks := .later }
def DigestFormUptoCardSaid : Prop := Claim7.holds Tryd.pinned (.plain (OpenSpec.upto digestFormSpec)) digestFormUptoCard

/-- THE SECOND FORM's CARD OF 'estoppellaw28.DigestNumbers'. -/
def digestNumbersUptoCard : Claim7 := { stood := { row := digestNumbersUptoRow, standIns := [], harness := (true, "6322fb08ba22c3f1a8f79c298375e51f682f039812770f0e129dcaa76c87eed4"), looks := false }, kinds := [], alts := [], laidByText := true, laidKinds := [.data, .data, .data, .data, .data], laidTests := true, laidLooks := .later }
def DigestNumbersUptoCardSaid : Prop := Claim7.holds Tryd.pinned (.plain (OpenSpec.upto digestNumbersSpec)) digestNumbersUptoCard

/-- THE SECOND FORM's CARD OF 'estoppellaw28.DigestDigits'. -/
def digestDigitsUptoCard : Claim7 := { stood := { row := digestDigitsUptoRow, standIns := [], harness := (true, "6322fb08ba22c3f1a8f79c298375e51f682f039812770f0e129dcaa76c87eed4"), looks := false }, kinds := [], alts := [], laidByText := true, laidKinds := [.data, .data, .data, .data, .data], laidTests := true, laidLooks := .later }
def DigestDigitsUptoCardSaid : Prop := Claim7.holds Tryd.pinned (.plain (OpenSpec.upto digestDigitsSpec)) digestDigitsUptoCard

/-- THE SECOND FORM's CARD OF 'estoppellaw28.DigestDifferent'. -/
def digestDifferentUptoCard : Claim7 := { stood := { row := digestDifferentUptoRow, standIns := [], harness := (true, "6322fb08ba22c3f1a8f79c298375e51f682f039812770f0e129dcaa76c87eed4"), looks := false }, kinds := [], alts := [], laidByText := true, laidKinds := [.data, .data, .data, .data, .data], laidTests := true, laidLooks := .later }
def DigestDifferentUptoCardSaid : Prop := Claim7.holds Tryd.pinned (.plain (OpenSpec.upto digestDifferentSpec)) digestDifferentUptoCard

/-- THE SECOND FORM's CARD OF 'estoppellaw29.SignMatchesReference'. -/
def signMatchesReferenceUptoCard : Claim7 := { stood := { row := signMatchesReferenceUptoRow, standIns := [], harness := (true, "6322fb08ba22c3f1a8f79c298375e51f682f039812770f0e129dcaa76c87eed4"), looks := false }, kinds := [], alts := [], laidByText := true, laidKinds := [.data, .data, .data, .data, .data], laidTests := true, laidLooks := .later }
def SignMatchesReferenceUptoCardSaid : Prop := Claim7.holds Tryd.pinned (.plain (OpenSpec.upto signMatchesReferenceSpec)) signMatchesReferenceUptoCard

/-- THE SECOND FORM's CARD OF 'estoppellaw29.SignVerifies'. -/
def signVerifiesUptoCard : Claim7 := { stood := { row := signVerifiesUptoRow, standIns := [], harness := (true, "6322fb08ba22c3f1a8f79c298375e51f682f039812770f0e129dcaa76c87eed4"), looks := false }, kinds := [], alts := [], laidByText := true, laidKinds := [.data, .data, .data, .data, .data], laidTests := true, laidLooks := .later }
def SignVerifiesUptoCardSaid : Prop := Claim7.holds Tryd.pinned (.plain (OpenSpec.upto signVerifiesSpec)) signVerifiesUptoCard

/-- THE SECOND FORM's CARD OF 'estoppellaw29.SignEquation'. -/
def signEquationUptoCard : Claim7 := { stood := { row := signEquationUptoRow, standIns := [], harness := (true, "6322fb08ba22c3f1a8f79c298375e51f682f039812770f0e129dcaa76c87eed4"), looks := false }, kinds := [], alts := [], laidByText := true, laidKinds := [.data, .data, .data, .data, .data], laidTests := true, laidLooks := .later }
def SignEquationUptoCardSaid : Prop := Claim7.holds Tryd.pinned (.plain (OpenSpec.upto signEquationSpec)) signEquationUptoCard

/-- THE SECOND FORM's CARD OF 'estoppellaw29.SignOnce'. -/
def signOnceUptoCard : Claim7 := { stood := { row := signOnceUptoRow, standIns := [], harness := (true, "6322fb08ba22c3f1a8f79c298375e51f682f039812770f0e129dcaa76c87eed4"), looks := false }, kinds := [], alts := [], laidByText := true, laidKinds := [.data, .data, .data, .data, .data], laidTests := true, laidLooks := .later }
def SignOnceUptoCardSaid : Prop := Claim7.holds Tryd.pinned (.plain (OpenSpec.upto signOnceSpec)) signOnceUptoCard

/-- THE SECOND FORM's CARD OF 'estoppellaw29.SignPowers'. -/
def signPowersUptoCard : Claim7 := { stood := { row := signPowersUptoRow, standIns := [], harness := (true, "6322fb08ba22c3f1a8f79c298375e51f682f039812770f0e129dcaa76c87eed4"), looks := false }, kinds := [], alts := [], laidByText := true, laidKinds := [.data, .data, .data, .data, .data], laidTests := true, laidLooks := .later }
def SignPowersUptoCardSaid : Prop := Claim7.holds Tryd.pinned (.plain (OpenSpec.upto signPowersSpec)) signPowersUptoCard

/-- THE SECOND FORM's CARD OF 'estoppellaw29.SignKeys'. -/
def signKeysUptoCard : Claim7 := { stood := { row := signKeysUptoRow, standIns := [], harness := (true, "6322fb08ba22c3f1a8f79c298375e51f682f039812770f0e129dcaa76c87eed4"), looks := false }, kinds := [], alts := [], laidByText := true, laidKinds := [.data, .data, .data, .data, .data], laidTests := true, laidLooks := .later }
def SignKeysUptoCardSaid : Prop := Claim7.holds Tryd.pinned (.plain (OpenSpec.upto signKeysSpec)) signKeysUptoCard

/-- THE SECOND FORM's CARD OF 'estoppellaw29.SignTexts'. -/
def signTextsUptoCard : Claim7 := { stood := { row := signTextsUptoRow, standIns := [], harness := (true, "6322fb08ba22c3f1a8f79c298375e51f682f039812770f0e129dcaa76c87eed4"), looks := false }, kinds := [], alts := [], laidByText := true, laidKinds := [.data, .data, .data, .data, .data], laidTests := true, laidLooks := .later }
def SignTextsUptoCardSaid : Prop := Claim7.holds Tryd.pinned (.plain (OpenSpec.upto signTextsSpec)) signTextsUptoCard
end Rows
end Go.Proofs.YtgjefmhobfdjdaaDoor
