/-
  No cell of these rows narrows 'for every input' (looked for: loops, veiled, ifaces, maps, wideKeys, modest, calm, conditions, laid).
  DERIVED. THE GIVEN ROWS OF THIS SEAT. 16 by the template 'for every input the law returns true; each argument reads behind the call as it read before'; 0 by the template 'total and deterministic' (their statements: YtnebmkkaobedaaaTotals.lean).
  GIVEN WITH THE SEED: the statements are not yours to turn. If you find one false, say at which input.
  Laid BY PROGRAM, IN A SANDBOX (cutbox-rows.mjs): the forced cells as the released guide's own fill.sh prints them over the translation beef5fcdda343543… (all of the seat's roots in one cut). By AI agents, Wed Nov 11 2026. No macro, syntax, notation, axiom, sorry.
-/
import Derived.Test.YtnebmkkaobedaaaChecked
import GoSem.Claim
import GoSem.ClaimJoined
import GoSem.ClaimMapViews
import Derived.JoinedTies
import Derived.KernelRfl
namespace Go.Proofs.Ytnebmkkaobedaaa
/- THE CELL 'sum', in the pinned program and in every row, IS THE sha256 OF THE DUMP (.gsa) THAT YtnebmkkaobedaaaProg.lean LOADS. Nothing in Lean hashes anything: it is a label: what it is worth is what the hold of that sum in a sandbox is worth. -/
noncomputable def Try.pinned : Pinned := { name := "ytnebmkkaobedaaa", sum := "beef5fcdda343543724627e8d5635bf58483a45faaf79f78a2b30e0ce269a38c", checked := Try.checked }
namespace Rows
def none {H : Type} : Left H := { results := [], args := [] }

/-- 'scantlinglaw03.ImageNew': WHATEVER THE INPUT: true; the input reads as it did. -/
def imageNewSpec : ChangeSpec := { name := "imageNew", fn := fun _ => fun
  | [d] => { results := [.lit (.bool true)], args := [d] }
  | _ => none }
def imageNewRow : OpenClaim := { program := "ytnebmkkaobedaaa", sum := "beef5fcdda343543724627e8d5635bf58483a45faaf79f78a2b30e0ce269a38c", func := "scantling/scantlinglaw03.ImageNew", spec := "imageNew", apart := false }
def ImageNewSaid : Prop := imageNewRow.holds Try.pinned (OpenSpec.ofChange imageNewSpec)

/-- ITS FALSE NEIGHBOUR: 'it returns false'. Refute it at one input. -/
def imageNewWrong : ChangeSpec := { name := "imageNew", fn := fun _ => fun
  | [d] => { results := [.lit (.bool false)], args := [d] }
  | _ => none }
def ImageNewWrongFalsely : Prop := imageNewRow.holds Try.pinned (OpenSpec.ofChange imageNewWrong)

/-- 'scantlinglaw02.CrcBurst': WHATEVER THE INPUT: true; the input reads as it did. -/
def crcBurstSpec : ChangeSpec := { name := "crcBurst", fn := fun _ => fun
  | [d1, d2, d3] => { results := [.lit (.bool true)], args := [d1, d2, d3] }
  | _ => none }
def crcBurstRow : OpenClaim := { program := "ytnebmkkaobedaaa", sum := "beef5fcdda343543724627e8d5635bf58483a45faaf79f78a2b30e0ce269a38c", func := "scantling/scantlinglaw02.CrcBurst", spec := "crcBurst", apart := false }
def CrcBurstSaid : Prop := crcBurstRow.holds Try.pinned (OpenSpec.ofChange crcBurstSpec)

/-- ITS FALSE NEIGHBOUR: 'it returns false'. Refute it at one input. -/
def crcBurstWrong : ChangeSpec := { name := "crcBurst", fn := fun _ => fun
  | [d1, d2, d3] => { results := [.lit (.bool false)], args := [d1, d2, d3] }
  | _ => none }
def CrcBurstWrongFalsely : Prop := crcBurstRow.holds Try.pinned (OpenSpec.ofChange crcBurstWrong)

/-- 'scantlinglaw02.CrcSums': WHATEVER THE INPUT: true; the input reads as it did. -/
def crcSumsSpec : ChangeSpec := { name := "crcSums", fn := fun _ => fun
  | [d1, d2] => { results := [.lit (.bool true)], args := [d1, d2] }
  | _ => none }
def crcSumsRow : OpenClaim := { program := "ytnebmkkaobedaaa", sum := "beef5fcdda343543724627e8d5635bf58483a45faaf79f78a2b30e0ce269a38c", func := "scantling/scantlinglaw02.CrcSums", spec := "crcSums", apart := false }
def CrcSumsSaid : Prop := crcSumsRow.holds Try.pinned (OpenSpec.ofChange crcSumsSpec)

/-- ITS FALSE NEIGHBOUR: 'it returns false'. Refute it at one input. -/
def crcSumsWrong : ChangeSpec := { name := "crcSums", fn := fun _ => fun
  | [d1, d2] => { results := [.lit (.bool false)], args := [d1, d2] }
  | _ => none }
def CrcSumsWrongFalsely : Prop := crcSumsRow.holds Try.pinned (OpenSpec.ofChange crcSumsWrong)

/-- 'scantlinglaw02.CrcPieces': WHATEVER THE INPUT: true; the input reads as it did. -/
def crcPiecesSpec : ChangeSpec := { name := "crcPieces", fn := fun _ => fun
  | [d] => { results := [.lit (.bool true)], args := [d] }
  | _ => none }
def crcPiecesRow : OpenClaim := { program := "ytnebmkkaobedaaa", sum := "beef5fcdda343543724627e8d5635bf58483a45faaf79f78a2b30e0ce269a38c", func := "scantling/scantlinglaw02.CrcPieces", spec := "crcPieces", apart := false }
def CrcPiecesSaid : Prop := crcPiecesRow.holds Try.pinned (OpenSpec.ofChange crcPiecesSpec)

/-- ITS FALSE NEIGHBOUR: 'it returns false'. Refute it at one input. -/
def crcPiecesWrong : ChangeSpec := { name := "crcPieces", fn := fun _ => fun
  | [d] => { results := [.lit (.bool false)], args := [d] }
  | _ => none }
def CrcPiecesWrongFalsely : Prop := crcPiecesRow.holds Try.pinned (OpenSpec.ofChange crcPiecesWrong)

/-- 'scantlinglaw02.CrcTable': WHATEVER THE INPUT: true; the input reads as it did. -/
def crcTableSpec : ChangeSpec := { name := "crcTable", fn := fun _ => fun
  | [d] => { results := [.lit (.bool true)], args := [d] }
  | _ => none }
def crcTableRow : OpenClaim := { program := "ytnebmkkaobedaaa", sum := "beef5fcdda343543724627e8d5635bf58483a45faaf79f78a2b30e0ce269a38c", func := "scantling/scantlinglaw02.CrcTable", spec := "crcTable", apart := false }
def CrcTableSaid : Prop := crcTableRow.holds Try.pinned (OpenSpec.ofChange crcTableSpec)

/-- ITS FALSE NEIGHBOUR: 'it returns false'. Refute it at one input. -/
def crcTableWrong : ChangeSpec := { name := "crcTable", fn := fun _ => fun
  | [d] => { results := [.lit (.bool false)], args := [d] }
  | _ => none }
def CrcTableWrongFalsely : Prop := crcTableRow.holds Try.pinned (OpenSpec.ofChange crcTableWrong)

/-- 'scantlinglaw12.RefsDiffers': WHATEVER THE INPUT: true; the input reads as it did. -/
def refsDiffersSpec : ChangeSpec := { name := "refsDiffers", fn := fun _ => fun
  | [d1, d2] => { results := [.lit (.bool true)], args := [d1, d2] }
  | _ => none }
def refsDiffersRow : OpenClaim := { program := "ytnebmkkaobedaaa", sum := "beef5fcdda343543724627e8d5635bf58483a45faaf79f78a2b30e0ce269a38c", func := "scantling/scantlinglaw12.RefsDiffers", spec := "refsDiffers", apart := false }
def RefsDiffersSaid : Prop := refsDiffersRow.holds Try.pinned (OpenSpec.ofChange refsDiffersSpec)

/-- ITS FALSE NEIGHBOUR: 'it returns false'. Refute it at one input. -/
def refsDiffersWrong : ChangeSpec := { name := "refsDiffers", fn := fun _ => fun
  | [d1, d2] => { results := [.lit (.bool false)], args := [d1, d2] }
  | _ => none }
def RefsDiffersWrongFalsely : Prop := refsDiffersRow.holds Try.pinned (OpenSpec.ofChange refsDiffersWrong)

/-- 'scantlinglaw12.RefsOrder': WHATEVER THE INPUT: true; the input reads as it did. -/
def refsOrderSpec : ChangeSpec := { name := "refsOrder", fn := fun _ => fun
  | [d1, d2] => { results := [.lit (.bool true)], args := [d1, d2] }
  | _ => none }
def refsOrderRow : OpenClaim := { program := "ytnebmkkaobedaaa", sum := "beef5fcdda343543724627e8d5635bf58483a45faaf79f78a2b30e0ce269a38c", func := "scantling/scantlinglaw12.RefsOrder", spec := "refsOrder", unfollowed := true, recurses := true, apart := false }
def RefsOrderSaid : Prop := refsOrderRow.holds Try.pinned (OpenSpec.ofChange refsOrderSpec)

/-- ITS FALSE NEIGHBOUR: 'it returns false'. Refute it at one input. -/
def refsOrderWrong : ChangeSpec := { name := "refsOrder", fn := fun _ => fun
  | [d1, d2] => { results := [.lit (.bool false)], args := [d1, d2] }
  | _ => none }
def RefsOrderWrongFalsely : Prop := refsOrderRow.holds Try.pinned (OpenSpec.ofChange refsOrderWrong)

/-- 'scantlinglaw15.TallLow': WHATEVER THE INPUT: true; the input reads as it did. -/
def tallLowSpec : ChangeSpec := { name := "tallLow", fn := fun _ => fun
  | [d1, d2] => { results := [.lit (.bool true)], args := [d1, d2] }
  | _ => none }
def tallLowRow : OpenClaim := { program := "ytnebmkkaobedaaa", sum := "beef5fcdda343543724627e8d5635bf58483a45faaf79f78a2b30e0ce269a38c", func := "scantling/scantlinglaw15.TallLow", spec := "tallLow", apart := false }
def TallLowSaid : Prop := tallLowRow.holds Try.pinned (OpenSpec.ofChange tallLowSpec)

/-- ITS FALSE NEIGHBOUR: 'it returns false'. Refute it at one input. -/
def tallLowWrong : ChangeSpec := { name := "tallLow", fn := fun _ => fun
  | [d1, d2] => { results := [.lit (.bool false)], args := [d1, d2] }
  | _ => none }
def TallLowWrongFalsely : Prop := tallLowRow.holds Try.pinned (OpenSpec.ofChange tallLowWrong)

/-- 'scantlinglaw03.ImagePlays': WHATEVER THE INPUT: true; the input reads as it did. -/
def imagePlaysSpec : ChangeSpec := { name := "imagePlays", fn := fun _ => fun
  | [d1, d2] => { results := [.lit (.bool true)], args := [d1, d2] }
  | _ => none }
def imagePlaysRow : OpenClaim := { program := "ytnebmkkaobedaaa", sum := "beef5fcdda343543724627e8d5635bf58483a45faaf79f78a2b30e0ce269a38c", func := "scantling/scantlinglaw03.ImagePlays", spec := "imagePlays", apart := false }
def ImagePlaysSaid : Prop := imagePlaysRow.holds Try.pinned (OpenSpec.ofChange imagePlaysSpec)

/-- ITS FALSE NEIGHBOUR: 'it returns false'. Refute it at one input. -/
def imagePlaysWrong : ChangeSpec := { name := "imagePlays", fn := fun _ => fun
  | [d1, d2] => { results := [.lit (.bool false)], args := [d1, d2] }
  | _ => none }
def ImagePlaysWrongFalsely : Prop := imagePlaysRow.holds Try.pinned (OpenSpec.ofChange imagePlaysWrong)

/-- 'scantlinglaw03.ImageOthers': WHATEVER THE INPUT: true; the input reads as it did. -/
def imageOthersSpec : ChangeSpec := { name := "imageOthers", fn := fun _ => fun
  | [d1, d2, d3] => { results := [.lit (.bool true)], args := [d1, d2, d3] }
  | _ => none }
def imageOthersRow : OpenClaim := { program := "ytnebmkkaobedaaa", sum := "beef5fcdda343543724627e8d5635bf58483a45faaf79f78a2b30e0ce269a38c", func := "scantling/scantlinglaw03.ImageOthers", spec := "imageOthers", apart := false }
def ImageOthersSaid : Prop := imageOthersRow.holds Try.pinned (OpenSpec.ofChange imageOthersSpec)

/-- ITS FALSE NEIGHBOUR: 'it returns false'. Refute it at one input. -/
def imageOthersWrong : ChangeSpec := { name := "imageOthers", fn := fun _ => fun
  | [d1, d2, d3] => { results := [.lit (.bool false)], args := [d1, d2, d3] }
  | _ => none }
def ImageOthersWrongFalsely : Prop := imageOthersRow.holds Try.pinned (OpenSpec.ofChange imageOthersWrong)

/-- 'scantlinglaw15.TallTells': WHATEVER THE INPUT: true; the input reads as it did. -/
def tallTellsSpec : ChangeSpec := { name := "tallTells", fn := fun _ => fun
  | [d1, d2, d3] => { results := [.lit (.bool true)], args := [d1, d2, d3] }
  | _ => none }
def tallTellsRow : OpenClaim := { program := "ytnebmkkaobedaaa", sum := "beef5fcdda343543724627e8d5635bf58483a45faaf79f78a2b30e0ce269a38c", func := "scantling/scantlinglaw15.TallTells", spec := "tallTells", apart := false }
def TallTellsSaid : Prop := tallTellsRow.holds Try.pinned (OpenSpec.ofChange tallTellsSpec)

/-- ITS FALSE NEIGHBOUR: 'it returns false'. Refute it at one input. -/
def tallTellsWrong : ChangeSpec := { name := "tallTells", fn := fun _ => fun
  | [d1, d2, d3] => { results := [.lit (.bool false)], args := [d1, d2, d3] }
  | _ => none }
def TallTellsWrongFalsely : Prop := tallTellsRow.holds Try.pinned (OpenSpec.ofChange tallTellsWrong)

/-- 'scantlinglaw15.TallAdds': WHATEVER THE INPUT: true; the input reads as it did. -/
def tallAddsSpec : ChangeSpec := { name := "tallAdds", fn := fun _ => fun
  | [d1, d2, d3] => { results := [.lit (.bool true)], args := [d1, d2, d3] }
  | _ => none }
def tallAddsRow : OpenClaim := { program := "ytnebmkkaobedaaa", sum := "beef5fcdda343543724627e8d5635bf58483a45faaf79f78a2b30e0ce269a38c", func := "scantling/scantlinglaw15.TallAdds", spec := "tallAdds", apart := false }
def TallAddsSaid : Prop := tallAddsRow.holds Try.pinned (OpenSpec.ofChange tallAddsSpec)

/-- ITS FALSE NEIGHBOUR: 'it returns false'. Refute it at one input. -/
def tallAddsWrong : ChangeSpec := { name := "tallAdds", fn := fun _ => fun
  | [d1, d2, d3] => { results := [.lit (.bool false)], args := [d1, d2, d3] }
  | _ => none }
def TallAddsWrongFalsely : Prop := tallAddsRow.holds Try.pinned (OpenSpec.ofChange tallAddsWrong)

/-- 'scantlinglaw03.ImageApart': WHATEVER THE INPUT: true; the input reads as it did. -/
def imageApartSpec : ChangeSpec := { name := "imageApart", fn := fun _ => fun
  | [d1, d2] => { results := [.lit (.bool true)], args := [d1, d2] }
  | _ => none }
def imageApartRow : OpenClaim := { program := "ytnebmkkaobedaaa", sum := "beef5fcdda343543724627e8d5635bf58483a45faaf79f78a2b30e0ce269a38c", func := "scantling/scantlinglaw03.ImageApart", spec := "imageApart", apart := false }
def ImageApartSaid : Prop := imageApartRow.holds Try.pinned (OpenSpec.ofChange imageApartSpec)

/-- ITS FALSE NEIGHBOUR: 'it returns false'. Refute it at one input. -/
def imageApartWrong : ChangeSpec := { name := "imageApart", fn := fun _ => fun
  | [d1, d2] => { results := [.lit (.bool false)], args := [d1, d2] }
  | _ => none }
def ImageApartWrongFalsely : Prop := imageApartRow.holds Try.pinned (OpenSpec.ofChange imageApartWrong)

/-- 'scantlinglaw03.ImageNobody': WHATEVER THE INPUT: true; the input reads as it did. -/
def imageNobodySpec : ChangeSpec := { name := "imageNobody", fn := fun _ => fun
  | [d1, d2] => { results := [.lit (.bool true)], args := [d1, d2] }
  | _ => none }
def imageNobodyRow : OpenClaim := { program := "ytnebmkkaobedaaa", sum := "beef5fcdda343543724627e8d5635bf58483a45faaf79f78a2b30e0ce269a38c", func := "scantling/scantlinglaw03.ImageNobody", spec := "imageNobody", apart := false }
def ImageNobodySaid : Prop := imageNobodyRow.holds Try.pinned (OpenSpec.ofChange imageNobodySpec)

/-- ITS FALSE NEIGHBOUR: 'it returns false'. Refute it at one input. -/
def imageNobodyWrong : ChangeSpec := { name := "imageNobody", fn := fun _ => fun
  | [d1, d2] => { results := [.lit (.bool false)], args := [d1, d2] }
  | _ => none }
def ImageNobodyWrongFalsely : Prop := imageNobodyRow.holds Try.pinned (OpenSpec.ofChange imageNobodyWrong)

/-- 'scantlinglaw12.RefsPlays': WHATEVER THE INPUT: true; the input reads as it did. -/
def refsPlaysSpec : ChangeSpec := { name := "refsPlays", fn := fun _ => fun
  | [d1, d2, d3] => { results := [.lit (.bool true)], args := [d1, d2, d3] }
  | _ => none }
def refsPlaysRow : OpenClaim := { program := "ytnebmkkaobedaaa", sum := "beef5fcdda343543724627e8d5635bf58483a45faaf79f78a2b30e0ce269a38c", func := "scantling/scantlinglaw12.RefsPlays", spec := "refsPlays", unfollowed := true, recurses := true, apart := false }
def RefsPlaysSaid : Prop := refsPlaysRow.holds Try.pinned (OpenSpec.ofChange refsPlaysSpec)

/-- ITS FALSE NEIGHBOUR: 'it returns false'. Refute it at one input. -/
def refsPlaysWrong : ChangeSpec := { name := "refsPlays", fn := fun _ => fun
  | [d1, d2, d3] => { results := [.lit (.bool false)], args := [d1, d2, d3] }
  | _ => none }
def RefsPlaysWrongFalsely : Prop := refsPlaysRow.holds Try.pinned (OpenSpec.ofChange refsPlaysWrong)

/-- 'scantlinglaw12.RefsNobody': WHATEVER THE INPUT: true; the input reads as it did. -/
def refsNobodySpec : ChangeSpec := { name := "refsNobody", fn := fun _ => fun
  | [d] => { results := [.lit (.bool true)], args := [d] }
  | _ => none }
def refsNobodyRow : OpenClaim := { program := "ytnebmkkaobedaaa", sum := "beef5fcdda343543724627e8d5635bf58483a45faaf79f78a2b30e0ce269a38c", func := "scantling/scantlinglaw12.RefsNobody", spec := "refsNobody", unfollowed := true, recurses := true, apart := false }
def RefsNobodySaid : Prop := refsNobodyRow.holds Try.pinned (OpenSpec.ofChange refsNobodySpec)

/-- ITS FALSE NEIGHBOUR: 'it returns false'. Refute it at one input. -/
def refsNobodyWrong : ChangeSpec := { name := "refsNobody", fn := fun _ => fun
  | [d] => { results := [.lit (.bool false)], args := [d] }
  | _ => none }
def RefsNobodyWrongFalsely : Prop := refsNobodyRow.holds Try.pinned (OpenSpec.ofChange refsNobodyWrong)

/- THE SECOND FORM. 'bulk': how many values and letters a reading holds, each counted each time it is reached (what is shared counts as often as it is met; a slice's spare places count too). A statement '..UptoSaid' is the law's where the arguments, and the package variables that the reading takes, are together of bulk at most 1048576: NARROWER than '..Said'. Prove '..Said' where nothing that the law and all that it calls make is longer than what came in: it says more and counts as full. Else prove '..UptoSaid'. A law counts once. -/
mutual
def uptoBulk {H : Type} : DataW H → Nat
  | .lit (.string bytes) => bytes.length + 1
  | .lit _ => 1
  | .nil => 1
  | .ptr d => uptoBulk d + 1
  | .slice elems spare => uptoBulkAll elems + uptoBulkAll spare + 1
  | .agg parts => uptoBulkAll parts + 1
  | .iface _ d => uptoBulk d + 1
  | .map entries => uptoBulkEntries entries + 1
  | .held _ => 1
def uptoBulkAll {H : Type} : List (DataW H) → Nat
  | [] => 0
  | d :: r => uptoBulk d + uptoBulkAll r
def uptoBulkEntries {H : Type} : List (Lit × DataW H) → Nat
  | [] => 0
  | x :: r => uptoBulkEntry x + uptoBulkEntries r
def uptoBulkEntry {H : Type} : Lit × DataW H → Nat
  | (.string bytes, d) => bytes.length + uptoBulk d + 1
  | (_, d) => uptoBulk d + 1
 end
def uptoSmall : (H : Type) → List (DataW H) → Bool := fun _ ds => decide (uptoBulkAll ds ≤ 1048576)
def OpenSpec.upto (s : _root_.Go.ChangeSpec) : _root_.Go.OpenSpec := { _root_.Go.OpenSpec.ofChange s with cond := some uptoSmall }

/-- 'scantlinglaw03.ImageNew', WHERE WHAT IT READS IS OF BULK AT MOST 1048576: true; the input reads as it did. -/
def imageNewUptoRow : OpenClaim := { program := "ytnebmkkaobedaaa", sum := "beef5fcdda343543724627e8d5635bf58483a45faaf79f78a2b30e0ce269a38c", func := "scantling/scantlinglaw03.ImageNew", spec := "imageNew", apart := false, narrowed := true }
def ImageNewUptoSaid : Prop := imageNewUptoRow.holds Try.pinned (OpenSpec.upto imageNewSpec)

/-- 'scantlinglaw02.CrcBurst', WHERE WHAT IT READS IS OF BULK AT MOST 1048576: true; the input reads as it did. -/
def crcBurstUptoRow : OpenClaim := { program := "ytnebmkkaobedaaa", sum := "beef5fcdda343543724627e8d5635bf58483a45faaf79f78a2b30e0ce269a38c", func := "scantling/scantlinglaw02.CrcBurst", spec := "crcBurst", apart := false, narrowed := true }
def CrcBurstUptoSaid : Prop := crcBurstUptoRow.holds Try.pinned (OpenSpec.upto crcBurstSpec)

/-- 'scantlinglaw02.CrcSums', WHERE WHAT IT READS IS OF BULK AT MOST 1048576: true; the input reads as it did. -/
def crcSumsUptoRow : OpenClaim := { program := "ytnebmkkaobedaaa", sum := "beef5fcdda343543724627e8d5635bf58483a45faaf79f78a2b30e0ce269a38c", func := "scantling/scantlinglaw02.CrcSums", spec := "crcSums", apart := false, narrowed := true }
def CrcSumsUptoSaid : Prop := crcSumsUptoRow.holds Try.pinned (OpenSpec.upto crcSumsSpec)

/-- 'scantlinglaw02.CrcPieces', WHERE WHAT IT READS IS OF BULK AT MOST 1048576: true; the input reads as it did. -/
def crcPiecesUptoRow : OpenClaim := { program := "ytnebmkkaobedaaa", sum := "beef5fcdda343543724627e8d5635bf58483a45faaf79f78a2b30e0ce269a38c", func := "scantling/scantlinglaw02.CrcPieces", spec := "crcPieces", apart := false, narrowed := true }
def CrcPiecesUptoSaid : Prop := crcPiecesUptoRow.holds Try.pinned (OpenSpec.upto crcPiecesSpec)

/-- 'scantlinglaw02.CrcTable', WHERE WHAT IT READS IS OF BULK AT MOST 1048576: true; the input reads as it did. -/
def crcTableUptoRow : OpenClaim := { program := "ytnebmkkaobedaaa", sum := "beef5fcdda343543724627e8d5635bf58483a45faaf79f78a2b30e0ce269a38c", func := "scantling/scantlinglaw02.CrcTable", spec := "crcTable", apart := false, narrowed := true }
def CrcTableUptoSaid : Prop := crcTableUptoRow.holds Try.pinned (OpenSpec.upto crcTableSpec)

/-- 'scantlinglaw12.RefsDiffers', WHERE WHAT IT READS IS OF BULK AT MOST 1048576: true; the input reads as it did. -/
def refsDiffersUptoRow : OpenClaim := { program := "ytnebmkkaobedaaa", sum := "beef5fcdda343543724627e8d5635bf58483a45faaf79f78a2b30e0ce269a38c", func := "scantling/scantlinglaw12.RefsDiffers", spec := "refsDiffers", apart := false, narrowed := true }
def RefsDiffersUptoSaid : Prop := refsDiffersUptoRow.holds Try.pinned (OpenSpec.upto refsDiffersSpec)

/-- 'scantlinglaw12.RefsOrder', WHERE WHAT IT READS IS OF BULK AT MOST 1048576: true; the input reads as it did. -/
def refsOrderUptoRow : OpenClaim := { program := "ytnebmkkaobedaaa", sum := "beef5fcdda343543724627e8d5635bf58483a45faaf79f78a2b30e0ce269a38c", func := "scantling/scantlinglaw12.RefsOrder", spec := "refsOrder", unfollowed := true, recurses := true, apart := false, narrowed := true }
def RefsOrderUptoSaid : Prop := refsOrderUptoRow.holds Try.pinned (OpenSpec.upto refsOrderSpec)

/-- 'scantlinglaw15.TallLow', WHERE WHAT IT READS IS OF BULK AT MOST 1048576: true; the input reads as it did. -/
def tallLowUptoRow : OpenClaim := { program := "ytnebmkkaobedaaa", sum := "beef5fcdda343543724627e8d5635bf58483a45faaf79f78a2b30e0ce269a38c", func := "scantling/scantlinglaw15.TallLow", spec := "tallLow", apart := false, narrowed := true }
def TallLowUptoSaid : Prop := tallLowUptoRow.holds Try.pinned (OpenSpec.upto tallLowSpec)

/-- 'scantlinglaw03.ImagePlays', WHERE WHAT IT READS IS OF BULK AT MOST 1048576: true; the input reads as it did. -/
def imagePlaysUptoRow : OpenClaim := { program := "ytnebmkkaobedaaa", sum := "beef5fcdda343543724627e8d5635bf58483a45faaf79f78a2b30e0ce269a38c", func := "scantling/scantlinglaw03.ImagePlays", spec := "imagePlays", apart := false, narrowed := true }
def ImagePlaysUptoSaid : Prop := imagePlaysUptoRow.holds Try.pinned (OpenSpec.upto imagePlaysSpec)

/-- 'scantlinglaw03.ImageOthers', WHERE WHAT IT READS IS OF BULK AT MOST 1048576: true; the input reads as it did. -/
def imageOthersUptoRow : OpenClaim := { program := "ytnebmkkaobedaaa", sum := "beef5fcdda343543724627e8d5635bf58483a45faaf79f78a2b30e0ce269a38c", func := "scantling/scantlinglaw03.ImageOthers", spec := "imageOthers", apart := false, narrowed := true }
def ImageOthersUptoSaid : Prop := imageOthersUptoRow.holds Try.pinned (OpenSpec.upto imageOthersSpec)

/-- 'scantlinglaw15.TallTells', WHERE WHAT IT READS IS OF BULK AT MOST 1048576: true; the input reads as it did. -/
def tallTellsUptoRow : OpenClaim := { program := "ytnebmkkaobedaaa", sum := "beef5fcdda343543724627e8d5635bf58483a45faaf79f78a2b30e0ce269a38c", func := "scantling/scantlinglaw15.TallTells", spec := "tallTells", apart := false, narrowed := true }
def TallTellsUptoSaid : Prop := tallTellsUptoRow.holds Try.pinned (OpenSpec.upto tallTellsSpec)

/-- 'scantlinglaw15.TallAdds', WHERE WHAT IT READS IS OF BULK AT MOST 1048576: true; the input reads as it did. -/
def tallAddsUptoRow : OpenClaim := { program := "ytnebmkkaobedaaa", sum := "beef5fcdda343543724627e8d5635bf58483a45faaf79f78a2b30e0ce269a38c", func := "scantling/scantlinglaw15.TallAdds", spec := "tallAdds", apart := false, narrowed := true }
def TallAddsUptoSaid : Prop := tallAddsUptoRow.holds Try.pinned (OpenSpec.upto tallAddsSpec)

/-- 'scantlinglaw03.ImageApart', WHERE WHAT IT READS IS OF BULK AT MOST 1048576: true; the input reads as it did. -/
def imageApartUptoRow : OpenClaim := { program := "ytnebmkkaobedaaa", sum := "beef5fcdda343543724627e8d5635bf58483a45faaf79f78a2b30e0ce269a38c", func := "scantling/scantlinglaw03.ImageApart", spec := "imageApart", apart := false, narrowed := true }
def ImageApartUptoSaid : Prop := imageApartUptoRow.holds Try.pinned (OpenSpec.upto imageApartSpec)

/-- 'scantlinglaw03.ImageNobody', WHERE WHAT IT READS IS OF BULK AT MOST 1048576: true; the input reads as it did. -/
def imageNobodyUptoRow : OpenClaim := { program := "ytnebmkkaobedaaa", sum := "beef5fcdda343543724627e8d5635bf58483a45faaf79f78a2b30e0ce269a38c", func := "scantling/scantlinglaw03.ImageNobody", spec := "imageNobody", apart := false, narrowed := true }
def ImageNobodyUptoSaid : Prop := imageNobodyUptoRow.holds Try.pinned (OpenSpec.upto imageNobodySpec)

/-- 'scantlinglaw12.RefsPlays', WHERE WHAT IT READS IS OF BULK AT MOST 1048576: true; the input reads as it did. -/
def refsPlaysUptoRow : OpenClaim := { program := "ytnebmkkaobedaaa", sum := "beef5fcdda343543724627e8d5635bf58483a45faaf79f78a2b30e0ce269a38c", func := "scantling/scantlinglaw12.RefsPlays", spec := "refsPlays", unfollowed := true, recurses := true, apart := false, narrowed := true }
def RefsPlaysUptoSaid : Prop := refsPlaysUptoRow.holds Try.pinned (OpenSpec.upto refsPlaysSpec)

/-- 'scantlinglaw12.RefsNobody', WHERE WHAT IT READS IS OF BULK AT MOST 1048576: true; the input reads as it did. -/
def refsNobodyUptoRow : OpenClaim := { program := "ytnebmkkaobedaaa", sum := "beef5fcdda343543724627e8d5635bf58483a45faaf79f78a2b30e0ce269a38c", func := "scantling/scantlinglaw12.RefsNobody", spec := "refsNobody", unfollowed := true, recurses := true, apart := false, narrowed := true }
def RefsNobodyUptoSaid : Prop := refsNobodyUptoRow.holds Try.pinned (OpenSpec.upto refsNobodySpec)

end Rows
end Go.Proofs.Ytnebmkkaobedaaa
