/-
  DERIVED. GIVEN WITH THE SEED: THE CARDS: each row of YtkjhhifhgcihpaaDoorRows.lean that lists a variable, with what it lists TIED to the program's text (the seventh form; the later family's looks); each row that meets fmt, with fmt's text TOLD by the authors' own Lean function (tested against real Go, not proved from fmt's source: count such statements apart). THE CARD IS WHAT COUNTS. Prove the row's statement (the work); the ties are given (YtkjhhifhgcihpaaDoorTie.lean); close each card by the builder's one call (the guide's Derived/Test/ToyasCard.lean, 'card_holds'). Laid BY PROGRAM, IN A SANDBOX (cutbox-door.mjs). By AI agents, Wed Nov 11 2026. No macro, syntax, notation, axiom, sorry.
-/
import Derived.Test.YtkjhhifhgcihpaaDoorRows
import GoSem.ClaimSeven
namespace Go.Proofs.YtkjhhifhgcihpaaDoor
namespace Rows

/-- THE TIED CARD OF 'dialtonelaw41.LinkMatchesReference'. -/
def linkMatchesReferenceCard : Claim7 := { stood := { row := linkMatchesReferenceRow, standIns := [], harness := (true, "e8cb016f11504b31678cd53f15f91b0a642cc1ffd8bed42d4293cbeeb2d15902"), looks := false }, kinds := [], alts := [], laidByText := true, laidKinds := [.data], laidTests := true, laidLooks := .later }
def LinkMatchesReferenceCardSaid : Prop := Claim7.holds Tryd.pinned (.plain (OpenSpec.ofChange linkMatchesReferenceSpec)) linkMatchesReferenceCard

/-- THE TIED CARD OF 'dialtonelaw41.LinkOnce'. -/
def linkOnceCard : Claim7 := { stood := { row := linkOnceRow, standIns := [], harness := (true, "e8cb016f11504b31678cd53f15f91b0a642cc1ffd8bed42d4293cbeeb2d15902"), looks := false }, kinds := [], alts := [], laidByText := true, laidKinds := [.data], laidTests := true, laidLooks := .later }
def LinkOnceCardSaid : Prop := Claim7.holds Tryd.pinned (.plain (OpenSpec.ofChange linkOnceSpec)) linkOnceCard

/-- THE TIED CARD OF 'dialtonelaw41.LinkAll'. -/
def linkAllCard : Claim7 := { stood := { row := linkAllRow, standIns := [], harness := (true, "e8cb016f11504b31678cd53f15f91b0a642cc1ffd8bed42d4293cbeeb2d15902"), looks := false }, kinds := [], alts := [], laidByText := true, laidKinds := [.data], laidTests := true, laidLooks := .later }
def LinkAllCardSaid : Prop := Claim7.holds Tryd.pinned (.plain (OpenSpec.ofChange linkAllSpec)) linkAllCard

/-- THE TIED CARD OF 'dialtonelaw41.LinkAcknowledged'. -/
def linkAcknowledgedCard : Claim7 := { stood := { row := linkAcknowledgedRow, standIns := [], harness := (true, "e8cb016f11504b31678cd53f15f91b0a642cc1ffd8bed42d4293cbeeb2d15902"), looks := false }, kinds := [], alts := [], laidByText := true, laidKinds := [.data], laidTests := true, laidLooks := .later }
def LinkAcknowledgedCardSaid : Prop := Claim7.holds Tryd.pinned (.plain (OpenSpec.ofChange linkAcknowledgedSpec)) linkAcknowledgedCard

/-- THE TIED CARD OF 'dialtonelaw41.LinkForged'. -/
def linkForgedCard : Claim7 := { stood := { row := linkForgedRow, standIns := [], harness := (true, "e8cb016f11504b31678cd53f15f91b0a642cc1ffd8bed42d4293cbeeb2d15902"), looks := false }, kinds := [], alts := [], laidByText := true, laidKinds := [.data], laidTests := true, laidLooks := .later }
def LinkForgedCardSaid : Prop := Claim7.holds Tryd.pinned (.plain (OpenSpec.ofChange linkForgedSpec)) linkForgedCard

/-- THE TIED CARD OF 'dialtonelaw41.LinkDoubled'. -/
def linkDoubledCard : Claim7 := { stood := { row := linkDoubledRow, standIns := [], harness := (true, "e8cb016f11504b31678cd53f15f91b0a642cc1ffd8bed42d4293cbeeb2d15902"), looks := false }, kinds := [], alts := [], laidByText := true, laidKinds := [.data], laidTests := true, laidLooks := .later }
def LinkDoubledCardSaid : Prop := Claim7.holds Tryd.pinned (.plain (OpenSpec.ofChange linkDoubledSpec)) linkDoubledCard

/-- THE TIED CARD OF 'dialtonelaw41.LinkOut'. -/
def linkOutCard : Claim7 := { stood := { row := linkOutRow, standIns := [], harness := (true, "e8cb016f11504b31678cd53f15f91b0a642cc1ffd8bed42d4293cbeeb2d15902"), looks := false }, kinds := [], alts := [], laidByText := true, laidKinds := [.data], laidTests := true, laidLooks := .later }
def LinkOutCardSaid : Prop := Claim7.holds Tryd.pinned (.plain (OpenSpec.ofChange linkOutSpec)) linkOutCard

/-- THE TIED CARD OF 'dialtonelaw41.LinkOrder'. -/
def linkOrderCard : Claim7 := { stood := { row := linkOrderRow, standIns := [], harness := (true, "e8cb016f11504b31678cd53f15f91b0a642cc1ffd8bed42d4293cbeeb2d15902"), looks := false }, kinds := [], alts := [], laidByText := true, laidKinds := [.data], laidTests := true, laidLooks := .later }
def LinkOrderCardSaid : Prop := Claim7.holds Tryd.pinned (.plain (OpenSpec.ofChange linkOrderSpec)) linkOrderCard

/-- THE TIED CARD OF 'dialtonelaw41.LinkAgain'. -/
def linkAgainCard : Claim7 := { stood := { row := linkAgainRow, standIns := [], harness := (true, "e8cb016f11504b31678cd53f15f91b0a642cc1ffd8bed42d4293cbeeb2d15902"), looks := false }, kinds := [], alts := [], laidByText := true, laidKinds := [.data], laidTests := true, laidLooks := .later }
def LinkAgainCardSaid : Prop := Claim7.holds Tryd.pinned (.plain (OpenSpec.ofChange linkAgainSpec)) linkAgainCard

/-- THE TIED CARD OF 'dialtonelaw41.LinkNil'. -/
def linkNilCard : Claim7 := { stood := { row := linkNilRow, standIns := [], harness := (true, "e8cb016f11504b31678cd53f15f91b0a642cc1ffd8bed42d4293cbeeb2d15902"), looks := false }, kinds := [], alts := [], laidByText := true, laidKinds := [.data], laidTests := true, laidLooks := .later }
def LinkNilCardSaid : Prop := Claim7.holds Tryd.pinned (.plain (OpenSpec.ofChange linkNilSpec)) linkNilCard

/-- THE SECOND FORM's CARD OF 'dialtonelaw41.LinkMatchesReference'. -/
def linkMatchesReferenceUptoCard : Claim7 := { stood := { row := linkMatchesReferenceUptoRow, standIns := [], harness := (true, "e8cb016f11504b31678cd53f15f91b0a642cc1ffd8bed42d4293cbeeb2d15902"), looks := false }, kinds := [], alts := [], laidByText := true, laidKinds := [.data], laidTests := true, laidLooks := .later }
def LinkMatchesReferenceUptoCardSaid : Prop := Claim7.holds Tryd.pinned (.plain (OpenSpec.upto linkMatchesReferenceSpec)) linkMatchesReferenceUptoCard

/-- THE SECOND FORM's CARD OF 'dialtonelaw41.LinkOnce'. -/
def linkOnceUptoCard : Claim7 := { stood := { row := linkOnceUptoRow, standIns := [], harness := (true, "e8cb016f11504b31678cd53f15f91b0a642cc1ffd8bed42d4293cbeeb2d15902"), looks := false }, kinds := [], alts := [], laidByText := true, laidKinds := [.data], laidTests := true, laidLooks := .later }
def LinkOnceUptoCardSaid : Prop := Claim7.holds Tryd.pinned (.plain (OpenSpec.upto linkOnceSpec)) linkOnceUptoCard

/-- THE SECOND FORM's CARD OF 'dialtonelaw41.LinkAll'. -/
def linkAllUptoCard : Claim7 := { stood := { row := linkAllUptoRow, standIns := [], harness := (true, "e8cb016f11504b31678cd53f15f91b0a642cc1ffd8bed42d4293cbeeb2d15902"), looks := false }, kinds := [], alts := [], laidByText := true, laidKinds := [.data], laidTests := true, laidLooks := .later }
def LinkAllUptoCardSaid : Prop := Claim7.holds Tryd.pinned (.plain (OpenSpec.upto linkAllSpec)) linkAllUptoCard

/-- THE SECOND FORM's CARD OF 'dialtonelaw41.LinkAcknowledged'. -/
def linkAcknowledgedUptoCard : Claim7 := { stood := { row := linkAcknowledgedUptoRow, standIns := [], harness := (true, "e8cb016f11504b31678cd53f15f91b0a642cc1ffd8bed42d4293cbeeb2d15902"), looks := false }, kinds := [], alts := [], laidByText := true, laidKinds := [.data], laidTests := true, laidLooks := .later }
def LinkAcknowledgedUptoCardSaid : Prop := Claim7.holds Tryd.pinned (.plain (OpenSpec.upto linkAcknowledgedSpec)) linkAcknowledgedUptoCard

/-- THE SECOND FORM's CARD OF 'dialtonelaw41.LinkForged'. -/
def linkForgedUptoCard : Claim7 := { stood := { row := linkForgedUptoRow, standIns := [], harness := (true, "e8cb016f11504b31678cd53f15f91b0a642cc1ffd8bed42d4293cbeeb2d15902"), looks := false }, kinds := [], alts := [], laidByText := true, laidKinds := [.data], laidTests := true, laidLooks := .later }
def LinkForgedUptoCardSaid : Prop := Claim7.holds Tryd.pinned (.plain (OpenSpec.upto linkForgedSpec)) linkForgedUptoCard

/-- THE SECOND FORM's CARD OF 'dialtonelaw41.LinkDoubled'. -/
def linkDoubledUptoCard : Claim7 := { stood := { row := linkDoubledUptoRow, standIns := [], harness := (true, "e8cb016f11504b31678cd53f15f91b0a642cc1ffd8bed42d4293cbeeb2d15902"), looks := false }, kinds := [], alts := [], laidByText := true, laidKinds := [.data], laidTests := true, laidLooks := .later }
def LinkDoubledUptoCardSaid : Prop := Claim7.holds Tryd.pinned (.plain (OpenSpec.upto linkDoubledSpec)) linkDoubledUptoCard

/-- THE SECOND FORM's CARD OF 'dialtonelaw41.LinkOut'. -/
def linkOutUptoCard : Claim7 := { stood := { row := linkOutUptoRow, standIns := [], harness := (true, "e8cb016f11504b31678cd53f15f91b0a642cc1ffd8bed42d4293cbeeb2d15902"), looks := false }, kinds := [], alts := [], laidByText := true, laidKinds := [.data], laidTests := true, laidLooks := .later }
def LinkOutUptoCardSaid : Prop := Claim7.holds Tryd.pinned (.plain (OpenSpec.upto linkOutSpec)) linkOutUptoCard

/-- THE SECOND FORM's CARD OF 'dialtonelaw41.LinkOrder'. -/
def linkOrderUptoCard : Claim7 := { stood := { row := linkOrderUptoRow, standIns := [], harness := (true, "e8cb016f11504b31678cd53f15f91b0a642cc1ffd8bed42d4293cbeeb2d15902"), looks := false }, kinds := [], alts := [], laidByText := true, laidKinds := [.data], laidTests := true, laidLooks := .later }
def LinkOrderUptoCardSaid : Prop := Claim7.holds Tryd.pinned (.plain (OpenSpec.upto linkOrderSpec)) linkOrderUptoCard

/-- THE SECOND FORM's CARD OF 'dialtonelaw41.LinkAgain'. -/
def linkAgainUptoCard : Claim7 := { stood := { row := linkAgainUptoRow, standIns := [], harness := (true, "e8cb016f11504b31678cd53f15f91b0a642cc1ffd8bed42d4293cbeeb2d15902"), looks := false }, kinds := [], alts := [], laidByText := true, laidKinds := [.data], laidTests := true, laidLooks := .later }
def LinkAgainUptoCardSaid : Prop := Claim7.holds Tryd.pinned (.plain (OpenSpec.upto linkAgainSpec)) linkAgainUptoCard

/-- THE SECOND FORM's CARD OF 'dialtonelaw41.LinkNil'. -/
def linkNilUptoCard : Claim7 := { stood := { row := linkNilUptoRow, standIns := [], harness := (true, "e8cb016f11504b31678cd53f15f91b0a642cc1ffd8bed42d4293cbeeb2d15902"), looks := false }, kinds := [], alts := [], laidByText := true, laidKinds := [.data], laidTests := true, laidLooks := .later }
def LinkNilUptoCardSaid : Prop := Claim7.holds Tryd.pinned (.plain (OpenSpec.upto linkNilSpec)) linkNilUptoCard
end Rows
end Go.Proofs.YtkjhhifhgcihpaaDoor
