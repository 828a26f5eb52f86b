/-
  DERIVED. GIVEN WITH THE SEED: THE CARDS: each row of YtbfebdaghcogfaaDoorRows.lean that lists a variable, with what it lists TIED to the program's text (the seventh form; the later family's looks); each row that meets fmt, with fmt's text TOLD by the authors' own Lean function (tested against real Go, not proved from fmt's source: count such statements apart). THE CARD IS WHAT COUNTS. Prove the row's statement (the work); the ties are given (YtbfebdaghcogfaaDoorTie.lean); close each card by the builder's one call (the guide's Derived/Test/ToyasCard.lean, 'card_holds'). Laid BY PROGRAM, IN A SANDBOX (cutbox-door.mjs). By AI agents, Wed Nov 11 2026. No macro, syntax, notation, axiom, sorry.
-/
import Derived.Test.YtbfebdaghcogfaaDoorRows
import GoSem.ClaimSeven
namespace Go.Proofs.YtbfebdaghcogfaaDoor
namespace Rows

/-- THE TIED CARD OF 'trystlaw22.InviteBack'. -/
def inviteBackCard : Claim7 := { stood := { row := inviteBackRow, standIns := [], harness := (true, "66e8d6fe4ac7be66575f8098bded743989d2268d009ff305800728476defce2d"), looks := false }, kinds := [], alts := [], laidByText := true, laidKinds := [.data, .data], laidTests := true, laidLooks := .later }
def InviteBackCardSaid : Prop := Claim7.holds Tryd.pinned (.plain (OpenSpec.ofChange inviteBackSpec)) inviteBackCard

/-- THE TIED CARD OF 'trystlaw21.DropMeets'. -/
def dropMeetsCard : Claim7 := { stood := { row := dropMeetsRow, standIns := [], harness := (true, "66e8d6fe4ac7be66575f8098bded743989d2268d009ff305800728476defce2d"), looks := false }, kinds := [], alts := [], laidByText := true, laidKinds := [.data, .data], laidTests := true, laidLooks := .later }
def DropMeetsCardSaid : Prop := Claim7.holds Tryd.pinned (.plain (OpenSpec.ofChange dropMeetsSpec)) dropMeetsCard

/-- THE TIED CARD OF 'trystlaw22.InviteAll'. -/
def inviteAllCard : Claim7 := { stood := { row := inviteAllRow, standIns := [], harness := (true, "66e8d6fe4ac7be66575f8098bded743989d2268d009ff305800728476defce2d"), looks := false }, kinds := [], alts := [], laidByText := true, laidKinds := [.data, .data], laidTests := true, laidLooks := .later }
def InviteAllCardSaid : Prop := Claim7.holds Tryd.pinned (.plain (OpenSpec.ofChange inviteAllSpec)) inviteAllCard

/-- THE TIED CARD OF 'trystlaw10.OnionBack'. -/
def onionBackCard : Claim7 := { stood := { row := onionBackRow, standIns := [], harness := (true, "66e8d6fe4ac7be66575f8098bded743989d2268d009ff305800728476defce2d"), looks := false }, kinds := [], alts := [], laidByText := true, laidKinds := [.data, .data], laidTests := true, laidLooks := .later }
def OnionBackCardSaid : Prop := Claim7.holds Tryd.pinned (.plain (OpenSpec.ofChange onionBackSpec)) onionBackCard

/-- THE SECOND FORM's CARD OF 'trystlaw22.InviteBack'. -/
def inviteBackUptoCard : Claim7 := { stood := { row := inviteBackUptoRow, standIns := [], harness := (true, "66e8d6fe4ac7be66575f8098bded743989d2268d009ff305800728476defce2d"), looks := false }, kinds := [], alts := [], laidByText := true, laidKinds := [.data, .data], laidTests := true, laidLooks := .later }
def InviteBackUptoCardSaid : Prop := Claim7.holds Tryd.pinned (.plain (OpenSpec.upto inviteBackSpec)) inviteBackUptoCard

/-- THE SECOND FORM's CARD OF 'trystlaw21.DropMeets'. -/
def dropMeetsUptoCard : Claim7 := { stood := { row := dropMeetsUptoRow, standIns := [], harness := (true, "66e8d6fe4ac7be66575f8098bded743989d2268d009ff305800728476defce2d"), looks := false }, kinds := [], alts := [], laidByText := true, laidKinds := [.data, .data], laidTests := true, laidLooks := .later }
def DropMeetsUptoCardSaid : Prop := Claim7.holds Tryd.pinned (.plain (OpenSpec.upto dropMeetsSpec)) dropMeetsUptoCard

/-- THE SECOND FORM's CARD OF 'trystlaw22.InviteAll'. -/
def inviteAllUptoCard : Claim7 := { stood := { row := inviteAllUptoRow, standIns := [], harness := (true, "66e8d6fe4ac7be66575f8098bded743989d2268d009ff305800728476defce2d"), looks := false }, kinds := [], alts := [], laidByText := true, laidKinds := [.data, .data], laidTests := true, laidLooks := .later }
def InviteAllUptoCardSaid : Prop := Claim7.holds Tryd.pinned (.plain (OpenSpec.upto inviteAllSpec)) inviteAllUptoCard

/-- THE SECOND FORM's CARD OF 'trystlaw10.OnionBack'. -/
def onionBackUptoCard : Claim7 := { stood := { row := onionBackUptoRow, standIns := [], harness := (true, "66e8d6fe4ac7be66575f8098bded743989d2268d009ff305800728476defce2d"), looks := false }, kinds := [], alts := [], laidByText := true, laidKinds := [.data, .data], laidTests := true, laidLooks := .later }
def OnionBackUptoCardSaid : Prop := Claim7.holds Tryd.pinned (.plain (OpenSpec.upto onionBackSpec)) onionBackUptoCard
end Rows
end Go.Proofs.YtbfebdaghcogfaaDoor
