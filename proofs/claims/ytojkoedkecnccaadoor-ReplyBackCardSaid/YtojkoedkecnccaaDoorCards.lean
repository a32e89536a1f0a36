/-
  DERIVED. GIVEN WITH THE SEED: THE CARDS: each row of YtojkoedkecnccaaDoorRows.lean that lists a variable, with what it lists TIED to the program's text (the seventh form; the later family's looks); each row that meets fmt, with fmt's text TOLD by the authors' own Lean function (tested against real Go, not proved from fmt's source: count such statements apart). THE CARD IS WHAT COUNTS. Prove the row's statement (the work); the ties are given (YtojkoedkecnccaaDoorTie.lean); close each card by the builder's one call (the guide's Derived/Test/ToyasCard.lean, 'card_holds'). Laid BY PROGRAM, IN A SANDBOX (cutbox-door.mjs). By AI agents, Wed Nov 11 2026. No macro, syntax, notation, axiom, sorry.
-/
import Derived.Test.YtojkoedkecnccaaDoorRows
import GoSem.ClaimSeven
namespace Go.Proofs.YtojkoedkecnccaaDoor
namespace Rows

/-- THE TIED CARD OF 'concourselaw03.UtfBad'. -/
def utfBadCard : Claim7 := { stood := { row := utfBadRow, standIns := [], harness := (true, "c6afd49713de280189291cf72adacae9ae4453ffbbb8054c27f9b6e01d7b1537"), looks := false }, kinds := [], alts := [], laidByText := true, laidKinds := [.data, .pinned], laidTests := true, laidLooks := .later }
def UtfBadCardSaid : Prop := Claim7.holds Tryd.pinned (.plain (OpenSpec.ofChange utfBadSpec)) utfBadCard

/-- THE TIED CARD OF 'concourselaw03.UtfNames'. -/
def utfNamesCard : Claim7 := { stood := { row := utfNamesRow, standIns := [], harness := (true, "c6afd49713de280189291cf72adacae9ae4453ffbbb8054c27f9b6e01d7b1537"), looks := false }, kinds := [], alts := [], laidByText := true, laidKinds := [.data, .pinned], laidTests := true, laidLooks := .later }
def UtfNamesCardSaid : Prop := Claim7.holds Tryd.pinned (.plain (OpenSpec.ofChange utfNamesSpec)) utfNamesCard

/-- THE TIED CARD OF 'concourselaw03.UtfTogether'. -/
def utfTogetherCard : Claim7 := { stood := { row := utfTogetherRow, standIns := [], harness := (true, "c6afd49713de280189291cf72adacae9ae4453ffbbb8054c27f9b6e01d7b1537"), looks := false }, kinds := [], alts := [], laidByText := true, laidKinds := [.data, .pinned], laidTests := true, laidLooks := .later }
def UtfTogetherCardSaid : Prop := Claim7.holds Tryd.pinned (.plain (OpenSpec.ofChange utfTogetherSpec)) utfTogetherCard

/-- THE TIED CARD OF 'concourselaw07.PadUnpads'. -/
def padUnpadsCard : Claim7 := { stood := { row := padUnpadsRow, standIns := [], harness := (true, "c6afd49713de280189291cf72adacae9ae4453ffbbb8054c27f9b6e01d7b1537"), looks := false }, kinds := [], alts := [], laidByText := true, laidKinds := [.data, .pinned], laidTests := true, laidLooks := .later }
def PadUnpadsCardSaid : Prop := Claim7.holds Tryd.pinned (.plain (OpenSpec.ofChange padUnpadsSpec)) padUnpadsCard

/-- THE TIED CARD OF 'concourselaw07.PadBack'. -/
def padBackCard : Claim7 := { stood := { row := padBackRow, standIns := [], harness := (true, "c6afd49713de280189291cf72adacae9ae4453ffbbb8054c27f9b6e01d7b1537"), looks := false }, kinds := [], alts := [], laidByText := true, laidKinds := [.data, .pinned], laidTests := true, laidLooks := .later }
def PadBackCardSaid : Prop := Claim7.holds Tryd.pinned (.plain (OpenSpec.ofChange padBackSpec)) padBackCard

/-- THE TIED CARD OF 'concourselaw35.ReplyHides'. -/
def replyHidesCard : Claim7 := { stood := { row := replyHidesRow, standIns := [], harness := (true, "c6afd49713de280189291cf72adacae9ae4453ffbbb8054c27f9b6e01d7b1537"), looks := false }, kinds := [], alts := [], laidByText := true, laidKinds := [.data, .pinned], laidTests := true, laidLooks := .later }
def ReplyHidesCardSaid : Prop := Claim7.holds Tryd.pinned (.plain (OpenSpec.ofChange replyHidesSpec)) replyHidesCard

/-- THE TIED CARD OF 'concourselaw35.ReplyTakes'. -/
def replyTakesCard : Claim7 := { stood := { row := replyTakesRow, standIns := [], harness := (true, "c6afd49713de280189291cf72adacae9ae4453ffbbb8054c27f9b6e01d7b1537"), looks := false }, kinds := [], alts := [], laidByText := true, laidKinds := [.data, .pinned], laidTests := true, laidLooks := .later }
def ReplyTakesCardSaid : Prop := Claim7.holds Tryd.pinned (.plain (OpenSpec.ofChange replyTakesSpec)) replyTakesCard

/-- THE TIED CARD OF 'concourselaw35.ReplyBack'. -/
def replyBackCard : Claim7 := { stood := { row := replyBackRow, standIns := [], harness := (true, "c6afd49713de280189291cf72adacae9ae4453ffbbb8054c27f9b6e01d7b1537"), looks := false }, kinds := [], alts := [], laidByText := true, laidKinds := [.data, .pinned], laidTests := true, laidLooks := .later }
def ReplyBackCardSaid : Prop := Claim7.holds Tryd.pinned (.plain (OpenSpec.ofChange replyBackSpec)) replyBackCard

/-- THE SECOND FORM's CARD OF 'concourselaw03.UtfBad'. -/
def utfBadUptoCard : Claim7 := { stood := { row := utfBadUptoRow, standIns := [], harness := (true, "c6afd49713de280189291cf72adacae9ae4453ffbbb8054c27f9b6e01d7b1537"), looks := false }, kinds := [], alts := [], laidByText := true, laidKinds := [.data, .pinned], laidTests := true, laidLooks := .later }
def UtfBadUptoCardSaid : Prop := Claim7.holds Tryd.pinned (.plain (OpenSpec.upto utfBadSpec)) utfBadUptoCard

/-- THE SECOND FORM's CARD OF 'concourselaw03.UtfNames'. -/
def utfNamesUptoCard : Claim7 := { stood := { row := utfNamesUptoRow, standIns := [], harness := (true, "c6afd49713de280189291cf72adacae9ae4453ffbbb8054c27f9b6e01d7b1537"), looks := false }, kinds := [], alts := [], laidByText := true, laidKinds := [.data, .pinned], laidTests := true, laidLooks := .later }
def UtfNamesUptoCardSaid : Prop := Claim7.holds Tryd.pinned (.plain (OpenSpec.upto utfNamesSpec)) utfNamesUptoCard

/-- THE SECOND FORM's CARD OF 'concourselaw03.UtfTogether'. -/
def utfTogetherUptoCard : Claim7 := { stood := { row := utfTogetherUptoRow, standIns := [], harness := (true, "c6afd49713de280189291cf72adacae9ae4453ffbbb8054c27f9b6e01d7b1537"), looks := false }, kinds := [], alts := [], laidByText := true, laidKinds := [.data, .pinned], laidTests := true, laidLooks := .later }
def UtfTogetherUptoCardSaid : Prop := Claim7.holds Tryd.pinned (.plain (OpenSpec.upto utfTogetherSpec)) utfTogetherUptoCard

/-- THE SECOND FORM's CARD OF 'concourselaw07.PadUnpads'. -/
def padUnpadsUptoCard : Claim7 := { stood := { row := padUnpadsUptoRow, standIns := [], harness := (true, "c6afd49713de280189291cf72adacae9ae4453ffbbb8054c27f9b6e01d7b1537"), looks := false }, kinds := [], alts := [], laidByText := true, laidKinds := [.data, .pinned], laidTests := true, laidLooks := .later }
def PadUnpadsUptoCardSaid : Prop := Claim7.holds Tryd.pinned (.plain (OpenSpec.upto padUnpadsSpec)) padUnpadsUptoCard

/-- THE SECOND FORM's CARD OF 'concourselaw07.PadBack'. -/
def padBackUptoCard : Claim7 := { stood := { row := padBackUptoRow, standIns := [], harness := (true, "c6afd49713de280189291cf72adacae9ae4453ffbbb8054c27f9b6e01d7b1537"), looks := false }, kinds := [], alts := [], laidByText := true, laidKinds := [.data, .pinned], laidTests := true, laidLooks := .later }
def PadBackUptoCardSaid : Prop := Claim7.holds Tryd.pinned (.plain (OpenSpec.upto padBackSpec)) padBackUptoCard

/-- THE SECOND FORM's CARD OF 'concourselaw35.ReplyHides'. -/
def replyHidesUptoCard : Claim7 := { stood := { row := replyHidesUptoRow, standIns := [], harness := (true, "c6afd49713de280189291cf72adacae9ae4453ffbbb8054c27f9b6e01d7b1537"), looks := false }, kinds := [], alts := [], laidByText := true, laidKinds := [.data, .pinned], laidTests := true, laidLooks := .later }
def ReplyHidesUptoCardSaid : Prop := Claim7.holds Tryd.pinned (.plain (OpenSpec.upto replyHidesSpec)) replyHidesUptoCard

/-- THE SECOND FORM's CARD OF 'concourselaw35.ReplyTakes'. -/
def replyTakesUptoCard : Claim7 := { stood := { row := replyTakesUptoRow, standIns := [], harness := (true, "c6afd49713de280189291cf72adacae9ae4453ffbbb8054c27f9b6e01d7b1537"), looks := false }, kinds := [], alts := [], laidByText := true, laidKinds := [.data, .pinned], laidTests := true, laidLooks := .later }
def ReplyTakesUptoCardSaid : Prop := Claim7.holds Tryd.pinned (.plain (OpenSpec.upto replyTakesSpec)) replyTakesUptoCard

/-- THE SECOND FORM's CARD OF 'concourselaw35.ReplyBack'. -/
def replyBackUptoCard : Claim7 := { stood := { row := replyBackUptoRow, standIns := [], harness := (true, "c6afd49713de280189291cf72adacae9ae4453ffbbb8054c27f9b6e01d7b1537"), looks := false }, kinds := [], alts := [], laidByText := true, laidKinds := [.data, .pinned], laidTests := true, laidLooks := .later }
def ReplyBackUptoCardSaid : Prop := Claim7.holds Tryd.pinned (.plain (OpenSpec.upto replyBackSpec)) replyBackUptoCard
end Rows
end Go.Proofs.YtojkoedkecnccaaDoor
