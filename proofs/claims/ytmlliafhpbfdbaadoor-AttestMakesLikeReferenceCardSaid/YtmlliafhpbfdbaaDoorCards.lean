/-
  DERIVED. GIVEN WITH THE SEED: THE CARDS: each row of YtmlliafhpbfdbaaDoorRows.lean that lists a variable, with what it lists TIED to the program's text (the seventh form; the later family's looks); each row that meets fmt, with fmt's text TOLD by the authors' own Lean function (tested against real Go, not proved from fmt's source: count such statements apart). THE CARD IS WHAT COUNTS. Prove the row's statement (the work); the ties are given (YtmlliafhpbfdbaaDoorTie.lean); close each card by the builder's one call (the guide's Derived/Test/ToyasCard.lean, 'card_holds'). Laid BY PROGRAM, IN A SANDBOX (cutbox-door.mjs). By AI agents, Wed Nov 11 2026. No macro, syntax, notation, axiom, sorry.
-/
import Derived.Test.YtmlliafhpbfdbaaDoorRows
import GoSem.ClaimSeven
namespace Go.Proofs.YtmlliafhpbfdbaaDoor
namespace Rows

/-- THE TIED CARD OF 'dialtonelaw25.AttestCuts'. -/
def attestCutsCard : Claim7 := { stood := { row := attestCutsRow, standIns := [], harness := (true, "352602bdb4ff59b698771050cfcb9251bd15a52cbf786eb3988f134e10ecf718"), looks := false }, kinds := [], alts := [], laidByText := true, laidKinds := [.data], laidTests := true, laidLooks := .later }
def AttestCutsCardSaid : Prop := Claim7.holds Tryd.pinned (.plain (OpenSpec.ofChange attestCutsSpec)) attestCutsCard

/-- THE TIED CARD OF 'dialtonelaw25.AttestBlames'. -/
def attestBlamesCard : Claim7 := { stood := { row := attestBlamesRow, standIns := [], harness := (true, "352602bdb4ff59b698771050cfcb9251bd15a52cbf786eb3988f134e10ecf718"), looks := false }, kinds := [], alts := [], laidByText := true, laidKinds := [.data], laidTests := true, laidLooks := .later }
def AttestBlamesCardSaid : Prop := Claim7.holds Tryd.pinned (.plain (OpenSpec.ofChange attestBlamesSpec)) attestBlamesCard

/-- THE TIED CARD OF 'dialtonelaw25.AttestMatchesReference'. -/
def attestMatchesReferenceCard : Claim7 := { stood := { row := attestMatchesReferenceRow, standIns := [], harness := (true, "352602bdb4ff59b698771050cfcb9251bd15a52cbf786eb3988f134e10ecf718"), looks := false }, kinds := [], alts := [], laidByText := true, laidKinds := [.data], laidTests := true, laidLooks := .later }
def AttestMatchesReferenceCardSaid : Prop := Claim7.holds Tryd.pinned (.plain (OpenSpec.ofChange attestMatchesReferenceSpec)) attestMatchesReferenceCard

/-- THE TIED CARD OF 'dialtonelaw25.AttestMakesLikeReference'. -/
def attestMakesLikeReferenceCard : Claim7 := { stood := { row := attestMakesLikeReferenceRow, standIns := [], harness := (true, "352602bdb4ff59b698771050cfcb9251bd15a52cbf786eb3988f134e10ecf718"), looks := false }, kinds := [], alts := [], laidByText := true, laidKinds := [.data], laidTests := true, laidLooks := .later }
def AttestMakesLikeReferenceCardSaid : Prop := Claim7.holds Tryd.pinned (.plain (OpenSpec.ofChange attestMakesLikeReferenceSpec)) attestMakesLikeReferenceCard

/-- THE TIED CARD OF 'dialtonelaw25.AttestWeakens'. -/
def attestWeakensCard : Claim7 := { stood := { row := attestWeakensRow, standIns := [], harness := (true, "352602bdb4ff59b698771050cfcb9251bd15a52cbf786eb3988f134e10ecf718"), looks := false }, kinds := [], alts := [], laidByText := true, laidKinds := [.data], laidTests := true, laidLooks := .later }
def AttestWeakensCardSaid : Prop := Claim7.holds Tryd.pinned (.plain (OpenSpec.ofChange attestWeakensSpec)) attestWeakensCard

/-- THE TIED CARD OF 'dialtonelaw25.AttestChecked'. -/
def attestCheckedCard : Claim7 := { stood := { row := attestCheckedRow, standIns := [], harness := (true, "352602bdb4ff59b698771050cfcb9251bd15a52cbf786eb3988f134e10ecf718"), looks := false }, kinds := [], alts := [], laidByText := true, laidKinds := [.data], laidTests := true, laidLooks := .later }
def AttestCheckedCardSaid : Prop := Claim7.holds Tryd.pinned (.plain (OpenSpec.ofChange attestCheckedSpec)) attestCheckedCard

/-- THE TIED CARD OF 'dialtonelaw25.AttestStays'. -/
def attestStaysCard : Claim7 := { stood := { row := attestStaysRow, standIns := [], harness := (true, "352602bdb4ff59b698771050cfcb9251bd15a52cbf786eb3988f134e10ecf718"), looks := false }, kinds := [], alts := [], laidByText := true, laidKinds := [.data], laidTests := true, laidLooks := .later }
def AttestStaysCardSaid : Prop := Claim7.holds Tryd.pinned (.plain (OpenSpec.ofChange attestStaysSpec)) attestStaysCard

/-- THE TIED CARD OF 'dialtonelaw25.AttestKeys'. -/
def attestKeysCard : Claim7 := { stood := { row := attestKeysRow, standIns := [], harness := (true, "352602bdb4ff59b698771050cfcb9251bd15a52cbf786eb3988f134e10ecf718"), looks := false }, kinds := [], alts := [], laidByText := true, laidKinds := [.data], laidTests := true, laidLooks := .later }
def AttestKeysCardSaid : Prop := Claim7.holds Tryd.pinned (.plain (OpenSpec.ofChange attestKeysSpec)) attestKeysCard

/-- THE TIED CARD OF 'dialtonelaw25.AttestBinds'. -/
def attestBindsCard : Claim7 := { stood := { row := attestBindsRow, standIns := [], harness := (true, "352602bdb4ff59b698771050cfcb9251bd15a52cbf786eb3988f134e10ecf718"), looks := false }, kinds := [], alts := [], laidByText := true, laidKinds := [.data], laidTests := true, laidLooks := .later }
def AttestBindsCardSaid : Prop := Claim7.holds Tryd.pinned (.plain (OpenSpec.ofChange attestBindsSpec)) attestBindsCard

/-- THE TIED CARD OF 'dialtonelaw25.AttestOther'. -/
def attestOtherCard : Claim7 := { stood := { row := attestOtherRow, standIns := [], harness := (true, "352602bdb4ff59b698771050cfcb9251bd15a52cbf786eb3988f134e10ecf718"), looks := false }, kinds := [], alts := [], laidByText := true, laidKinds := [.data], laidTests := true, laidLooks := .later }
def AttestOtherCardSaid : Prop := Claim7.holds Tryd.pinned (.plain (OpenSpec.ofChange attestOtherSpec)) attestOtherCard

/-- THE SECOND FORM's CARD OF 'dialtonelaw25.AttestCuts'. -/
def attestCutsUptoCard : Claim7 := { stood := { row := attestCutsUptoRow, standIns := [], harness := (true, "352602bdb4ff59b698771050cfcb9251bd15a52cbf786eb3988f134e10ecf718"), looks := false }, kinds := [], alts := [], laidByText := true, laidKinds := [.data], laidTests := true, laidLooks := .later }
def AttestCutsUptoCardSaid : Prop := Claim7.holds Tryd.pinned (.plain (OpenSpec.upto attestCutsSpec)) attestCutsUptoCard

/-- THE SECOND FORM's CARD OF 'dialtonelaw25.AttestBlames'. -/
def attestBlamesUptoCard : Claim7 := { stood := { row := attestBlamesUptoRow, standIns := [], harness := (true, "352602bdb4ff59b698771050cfcb9251bd15a52cbf786eb3988f134e10ecf718"), looks := false }, kinds := [], alts := [], laidByText := true, laidKinds := [.data], laidTests := true, laidLooks := .later }
def AttestBlamesUptoCardSaid : Prop := Claim7.holds Tryd.pinned (.plain (OpenSpec.upto attestBlamesSpec)) attestBlamesUptoCard

/-- THE SECOND FORM's CARD OF 'dialtonelaw25.AttestMatchesReference'. -/
def attestMatchesReferenceUptoCard : Claim7 := { stood := { row := attestMatchesReferenceUptoRow, standIns := [], harness := (true, "352602bdb4ff59b698771050cfcb9251bd15a52cbf786eb3988f134e10ecf718"), looks := false }, kinds := [], alts := [], laidByText := true, laidKinds := [.data], laidTests := true, laidLooks := .later }
def AttestMatchesReferenceUptoCardSaid : Prop := Claim7.holds Tryd.pinned (.plain (OpenSpec.upto attestMatchesReferenceSpec)) attestMatchesReferenceUptoCard

/-- THE SECOND FORM's CARD OF 'dialtonelaw25.AttestMakesLikeReference'. -/
def attestMakesLikeReferenceUptoCard : Claim7 := { stood := { row := attestMakesLikeReferenceUptoRow, standIns := [], harness := (true, "352602bdb4ff59b698771050cfcb9251bd15a52cbf786eb3988f134e10ecf718"), looks := false }, kinds := [], alts := [], laidByText := true, laidKinds := [.data], laidTests := true, laidLooks := .later }
def AttestMakesLikeReferenceUptoCardSaid : Prop := Claim7.holds Tryd.pinned (.plain (OpenSpec.upto attestMakesLikeReferenceSpec)) attestMakesLikeReferenceUptoCard

/-- THE SECOND FORM's CARD OF 'dialtonelaw25.AttestWeakens'. -/
def attestWeakensUptoCard : Claim7 := { stood := { row := attestWeakensUptoRow, standIns := [], harness := (true, "352602bdb4ff59b698771050cfcb9251bd15a52cbf786eb3988f134e10ecf718"), looks := false }, kinds := [], alts := [], laidByText := true, laidKinds := [.data], laidTests := true, laidLooks := .later }
def AttestWeakensUptoCardSaid : Prop := Claim7.holds Tryd.pinned (.plain (OpenSpec.upto attestWeakensSpec)) attestWeakensUptoCard

/-- THE SECOND FORM's CARD OF 'dialtonelaw25.AttestChecked'. -/
def attestCheckedUptoCard : Claim7 := { stood := { row := attestCheckedUptoRow, standIns := [], harness := (true, "352602bdb4ff59b698771050cfcb9251bd15a52cbf786eb3988f134e10ecf718"), looks := false }, kinds := [], alts := [], laidByText := true, laidKinds := [.data], laidTests := true, laidLooks := .later }
def AttestCheckedUptoCardSaid : Prop := Claim7.holds Tryd.pinned (.plain (OpenSpec.upto attestCheckedSpec)) attestCheckedUptoCard

/-- THE SECOND FORM's CARD OF 'dialtonelaw25.AttestStays'. -/
def attestStaysUptoCard : Claim7 := { stood := { row := attestStaysUptoRow, standIns := [], harness := (true, "352602bdb4ff59b698771050cfcb9251bd15a52cbf786eb3988f134e10ecf718"), looks := false }, kinds := [], alts := [], laidByText := true, laidKinds := [.data], laidTests := true, laidLooks := .later }
def AttestStaysUptoCardSaid : Prop := Claim7.holds Tryd.pinned (.plain (OpenSpec.upto attestStaysSpec)) attestStaysUptoCard

/-- THE SECOND FORM's CARD OF 'dialtonelaw25.AttestKeys'. -/
def attestKeysUptoCard : Claim7 := { stood := { row := attestKeysUptoRow, standIns := [], harness := (true, "352602bdb4ff59b698771050cfcb9251bd15a52cbf786eb3988f134e10ecf718"), looks := false }, kinds := [], alts := [], laidByText := true, laidKinds := [.data], laidTests := true, laidLooks := .later }
def AttestKeysUptoCardSaid : Prop := Claim7.holds Tryd.pinned (.plain (OpenSpec.upto attestKeysSpec)) attestKeysUptoCard

/-- THE SECOND FORM's CARD OF 'dialtonelaw25.AttestBinds'. -/
def attestBindsUptoCard : Claim7 := { stood := { row := attestBindsUptoRow, standIns := [], harness := (true, "352602bdb4ff59b698771050cfcb9251bd15a52cbf786eb3988f134e10ecf718"), looks := false }, kinds := [], alts := [], laidByText := true, laidKinds := [.data], laidTests := true, laidLooks := .later }
def AttestBindsUptoCardSaid : Prop := Claim7.holds Tryd.pinned (.plain (OpenSpec.upto attestBindsSpec)) attestBindsUptoCard

/-- THE SECOND FORM's CARD OF 'dialtonelaw25.AttestOther'. -/
def attestOtherUptoCard : Claim7 := { stood := { row := attestOtherUptoRow, standIns := [], harness := (true, "352602bdb4ff59b698771050cfcb9251bd15a52cbf786eb3988f134e10ecf718"), looks := false }, kinds := [], alts := [], laidByText := true, laidKinds := [.data], laidTests := true, laidLooks := .later }
def AttestOtherUptoCardSaid : Prop := Claim7.holds Tryd.pinned (.plain (OpenSpec.upto attestOtherSpec)) attestOtherUptoCard
end Rows
end Go.Proofs.YtmlliafhpbfdbaaDoor
