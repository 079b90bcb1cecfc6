/-
  DERIVED. GIVEN WITH THE SEED: THE CARDS: each row of YtijcgllddnpmhaaGreatDoorRows.lean that lists a variable, with what it lists TIED to the program's text (the seventh form; the later family's looks); each row that meets fmt, with fmt's text TOLD by the authors' own Lean function (tested against real Go, not proved from fmt's source: count such statements apart). THE CARD IS WHAT COUNTS. Prove the row's statement (the work); the ties are given (YtijcgllddnpmhaaGreatDoorTie.lean); close each card by the builder's one call (the guide's Derived/Test/ToyasCard.lean, 'card_holds'). Laid BY PROGRAM, IN A SANDBOX (cutbox-door.mjs). By AI agents, Wed Nov 11 2026. No macro, syntax, notation, axiom, sorry.
-/
import Derived.Test.YtijcgllddnpmhaaGreatDoorRows
import GoSem.ClaimSeven
namespace Go.Proofs.YtijcgllddnpmhaaGreatDoor
namespace Rows

/-- THE TIED CARD OF 'scantlingtop.TopSound'. -/
def topSoundCard : Claim7 := { stood := { row := topSoundRow, standIns := [], harness := (true, "99f8c00c083e1ae627de0ef2608da93e0a8e4f3be75c19d0fc19d3b982b98e19"), looks := true }, kinds := [], alts := [], laidByText := true, laidKinds := [.handle], laidTests := true, laidLooks := .later }
def TopSoundCardSaid : Prop := Claim7.holds Tryz.pinned (.plain (OpenSpec.ofChange topSoundSpec)) topSoundCard

/-- THE TIED CARD OF 'scantlingtop.TopNewest'. -/
def topNewestCard : Claim7 := { stood := { row := topNewestRow, standIns := [], harness := (true, "99f8c00c083e1ae627de0ef2608da93e0a8e4f3be75c19d0fc19d3b982b98e19"), looks := true }, kinds := [], alts := [], laidByText := true, laidKinds := [.handle], laidTests := true, laidLooks := .later }
def TopNewestCardSaid : Prop := Claim7.holds Tryz.pinned (.plain (OpenSpec.ofChange topNewestSpec)) topNewestCard

/-- THE TIED CARD OF 'scantlingtop.TopHurt'. -/
def topHurtCard : Claim7 := { stood := { row := topHurtRow, standIns := [], harness := (true, "99f8c00c083e1ae627de0ef2608da93e0a8e4f3be75c19d0fc19d3b982b98e19"), looks := true }, kinds := [], alts := [], laidByText := true, laidKinds := [.handle], laidTests := true, laidLooks := .later }
def TopHurtCardSaid : Prop := Claim7.holds Tryz.pinned (.plain (OpenSpec.ofChange topHurtSpec)) topHurtCard

/-- THE SECOND FORM's CARD OF 'scantlingtop.TopSound'. -/
def topSoundUptoCard : Claim7 := { stood := { row := topSoundUptoRow, standIns := [], harness := (true, "99f8c00c083e1ae627de0ef2608da93e0a8e4f3be75c19d0fc19d3b982b98e19"), looks := true }, kinds := [], alts := [], laidByText := true, laidKinds := [.handle], laidTests := true, laidLooks := .later }
def TopSoundUptoCardSaid : Prop := Claim7.holds Tryz.pinned (.plain (OpenSpec.upto topSoundSpec)) topSoundUptoCard

/-- THE SECOND FORM's CARD OF 'scantlingtop.TopNewest'. -/
def topNewestUptoCard : Claim7 := { stood := { row := topNewestUptoRow, standIns := [], harness := (true, "99f8c00c083e1ae627de0ef2608da93e0a8e4f3be75c19d0fc19d3b982b98e19"), looks := true }, kinds := [], alts := [], laidByText := true, laidKinds := [.handle], laidTests := true, laidLooks := .later }
def TopNewestUptoCardSaid : Prop := Claim7.holds Tryz.pinned (.plain (OpenSpec.upto topNewestSpec)) topNewestUptoCard

/-- THE SECOND FORM's CARD OF 'scantlingtop.TopHurt'. -/
def topHurtUptoCard : Claim7 := { stood := { row := topHurtUptoRow, standIns := [], harness := (true, "99f8c00c083e1ae627de0ef2608da93e0a8e4f3be75c19d0fc19d3b982b98e19"), looks := true }, kinds := [], alts := [], laidByText := true, laidKinds := [.handle], laidTests := true, laidLooks := .later }
def TopHurtUptoCardSaid : Prop := Claim7.holds Tryz.pinned (.plain (OpenSpec.upto topHurtSpec)) topHurtUptoCard
end Rows
end Go.Proofs.YtijcgllddnpmhaaGreatDoor
