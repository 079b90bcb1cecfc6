/-
  No cell of these rows narrows 'for every input' (looked for: loops, veiled, ifaces, maps, wideKeys, modest, calm, conditions, laid).
  DERIVED. THE GIVEN ROWS OF THIS SEAT. 14 by the template 'for every input the law returns true; each argument reads behind the call as it read before'; 0 by the template 'total and deterministic' (their statements: YtilkcecjciiboaaTotals.lean).
  GIVEN WITH THE SEED: the statements are not yours to turn. If you find one false, say at which input.
  Laid BY PROGRAM, IN A SANDBOX (cutbox-rows.mjs): the forced cells as the released guide's own fill.sh prints them over the translation b84ef99735da8245… (all of the seat's roots in one cut). By AI agents, Wed Nov 11 2026. No macro, syntax, notation, axiom, sorry.
-/
import Derived.Test.YtilkcecjciiboaaChecked
import GoSem.Claim
import GoSem.ClaimJoined
import GoSem.ClaimMapViews
import Derived.JoinedTies
import Derived.KernelRfl
namespace Go.Proofs.Ytilkcecjciiboaa
/- THE CELL 'sum', in the pinned program and in every row, IS THE sha256 OF THE DUMP (.gsa) THAT YtilkcecjciiboaaProg.lean LOADS. Nothing in Lean hashes anything: it is a label: what it is worth is what the hold of that sum in a sandbox is worth. -/
noncomputable def Try.pinned : Pinned := { name := "ytilkcecjciiboaa", sum := "b84ef99735da82456fe5fafdfa6fc16d812eec50c3c0fdf3ab622dbc8c6583ad", checked := Try.checked }
namespace Rows
def none {H : Type} : Left H := { results := [], args := [] }

/-- 'scantlinglaw44.SqueezeMakes': WHATEVER THE INPUT: true; the input reads as it did. -/
def squeezeMakesSpec : ChangeSpec := { name := "squeezeMakes", fn := fun _ => fun
  | [d] => { results := [.lit (.bool true)], args := [d] }
  | _ => none }
def squeezeMakesRow : OpenClaim := { program := "ytilkcecjciiboaa", sum := "b84ef99735da82456fe5fafdfa6fc16d812eec50c3c0fdf3ab622dbc8c6583ad", func := "scantling/scantlinglaw44.SqueezeMakes", spec := "squeezeMakes", inPlace := ["internal/bytealg.MakeNoZero"], unfollowed := true, recurses := true, apart := false }
def SqueezeMakesSaid : Prop := squeezeMakesRow.holds Try.pinned (OpenSpec.ofChange squeezeMakesSpec)

/-- ITS FALSE NEIGHBOUR: 'it returns false'. Refute it at one input. -/
def squeezeMakesWrong : ChangeSpec := { name := "squeezeMakes", fn := fun _ => fun
  | [d] => { results := [.lit (.bool false)], args := [d] }
  | _ => none }
def SqueezeMakesWrongFalsely : Prop := squeezeMakesRow.holds Try.pinned (OpenSpec.ofChange squeezeMakesWrong)

/-- 'scantlinglaw07.NodeMost': WHATEVER THE INPUT: true; the input reads as it did. -/
def nodeMostSpec : ChangeSpec := { name := "nodeMost", fn := fun _ => fun
  | [d1, d2, d3, d4] => { results := [.lit (.bool true)], args := [d1, d2, d3, d4] }
  | _ => none }
def nodeMostRow : OpenClaim := { program := "ytilkcecjciiboaa", sum := "b84ef99735da82456fe5fafdfa6fc16d812eec50c3c0fdf3ab622dbc8c6583ad", func := "scantling/scantlinglaw07.NodeMost", spec := "nodeMost", apart := false }
def NodeMostSaid : Prop := nodeMostRow.holds Try.pinned (OpenSpec.ofChange nodeMostSpec)

/-- ITS FALSE NEIGHBOUR: 'it returns false'. Refute it at one input. -/
def nodeMostWrong : ChangeSpec := { name := "nodeMost", fn := fun _ => fun
  | [d1, d2, d3, d4] => { results := [.lit (.bool false)], args := [d1, d2, d3, d4] }
  | _ => none }
def NodeMostWrongFalsely : Prop := nodeMostRow.holds Try.pinned (OpenSpec.ofChange nodeMostWrong)

/-- 'scantlinglaw04.SealSeals': WHATEVER THE INPUT: true; the input reads as it did. -/
def sealSealsSpec : ChangeSpec := { name := "sealSeals", fn := fun _ => fun
  | [d1, d2, d3] => { results := [.lit (.bool true)], args := [d1, d2, d3] }
  | _ => none }
def sealSealsRow : OpenClaim := { program := "ytilkcecjciiboaa", sum := "b84ef99735da82456fe5fafdfa6fc16d812eec50c3c0fdf3ab622dbc8c6583ad", func := "scantling/scantlinglaw04.SealSeals", spec := "sealSeals", apart := false }
def SealSealsSaid : Prop := sealSealsRow.holds Try.pinned (OpenSpec.ofChange sealSealsSpec)

/-- ITS FALSE NEIGHBOUR: 'it returns false'. Refute it at one input. -/
def sealSealsWrong : ChangeSpec := { name := "sealSeals", fn := fun _ => fun
  | [d1, d2, d3] => { results := [.lit (.bool false)], args := [d1, d2, d3] }
  | _ => none }
def SealSealsWrongFalsely : Prop := sealSealsRow.holds Try.pinned (OpenSpec.ofChange sealSealsWrong)

/-- 'scantlinglaw44.SqueezeReads': WHATEVER THE INPUT: true; the input reads as it did. -/
def squeezeReadsSpec : ChangeSpec := { name := "squeezeReads", fn := fun _ => fun
  | [d1, d2] => { results := [.lit (.bool true)], args := [d1, d2] }
  | _ => none }
def squeezeReadsRow : OpenClaim := { program := "ytilkcecjciiboaa", sum := "b84ef99735da82456fe5fafdfa6fc16d812eec50c3c0fdf3ab622dbc8c6583ad", func := "scantling/scantlinglaw44.SqueezeReads", spec := "squeezeReads", inPlace := ["internal/bytealg.MakeNoZero"], unfollowed := true, recurses := true, apart := false }
def SqueezeReadsSaid : Prop := squeezeReadsRow.holds Try.pinned (OpenSpec.ofChange squeezeReadsSpec)

/-- ITS FALSE NEIGHBOUR: 'it returns false'. Refute it at one input. -/
def squeezeReadsWrong : ChangeSpec := { name := "squeezeReads", fn := fun _ => fun
  | [d1, d2] => { results := [.lit (.bool false)], args := [d1, d2] }
  | _ => none }
def SqueezeReadsWrongFalsely : Prop := squeezeReadsRow.holds Try.pinned (OpenSpec.ofChange squeezeReadsWrong)

/-- 'scantlinglaw07.NodePuts': WHATEVER THE INPUT: true; the input reads as it did. -/
def nodePutsSpec : ChangeSpec := { name := "nodePuts", fn := fun _ => fun
  | [d1, d2, d3, d4] => { results := [.lit (.bool true)], args := [d1, d2, d3, d4] }
  | _ => none }
def nodePutsRow : OpenClaim := { program := "ytilkcecjciiboaa", sum := "b84ef99735da82456fe5fafdfa6fc16d812eec50c3c0fdf3ab622dbc8c6583ad", func := "scantling/scantlinglaw07.NodePuts", spec := "nodePuts", apart := false }
def NodePutsSaid : Prop := nodePutsRow.holds Try.pinned (OpenSpec.ofChange nodePutsSpec)

/-- ITS FALSE NEIGHBOUR: 'it returns false'. Refute it at one input. -/
def nodePutsWrong : ChangeSpec := { name := "nodePuts", fn := fun _ => fun
  | [d1, d2, d3, d4] => { results := [.lit (.bool false)], args := [d1, d2, d3, d4] }
  | _ => none }
def NodePutsWrongFalsely : Prop := nodePutsRow.holds Try.pinned (OpenSpec.ofChange nodePutsWrong)

/-- 'scantlinglaw44.SqueezeBack': WHATEVER THE INPUT: true; the input reads as it did. -/
def squeezeBackSpec : ChangeSpec := { name := "squeezeBack", fn := fun _ => fun
  | [d1, d2] => { results := [.lit (.bool true)], args := [d1, d2] }
  | _ => none }
def squeezeBackRow : OpenClaim := { program := "ytilkcecjciiboaa", sum := "b84ef99735da82456fe5fafdfa6fc16d812eec50c3c0fdf3ab622dbc8c6583ad", func := "scantling/scantlinglaw44.SqueezeBack", spec := "squeezeBack", inPlace := ["internal/bytealg.MakeNoZero"], unfollowed := true, recurses := true, apart := false }
def SqueezeBackSaid : Prop := squeezeBackRow.holds Try.pinned (OpenSpec.ofChange squeezeBackSpec)

/-- ITS FALSE NEIGHBOUR: 'it returns false'. Refute it at one input. -/
def squeezeBackWrong : ChangeSpec := { name := "squeezeBack", fn := fun _ => fun
  | [d1, d2] => { results := [.lit (.bool false)], args := [d1, d2] }
  | _ => none }
def SqueezeBackWrongFalsely : Prop := squeezeBackRow.holds Try.pinned (OpenSpec.ofChange squeezeBackWrong)

/-- 'scantlinglaw04.SealOne': WHATEVER THE INPUT: true; the input reads as it did. -/
def sealOneSpec : ChangeSpec := { name := "sealOne", fn := fun _ => fun
  | [d1, d2, d3] => { results := [.lit (.bool true)], args := [d1, d2, d3] }
  | _ => none }
def sealOneRow : OpenClaim := { program := "ytilkcecjciiboaa", sum := "b84ef99735da82456fe5fafdfa6fc16d812eec50c3c0fdf3ab622dbc8c6583ad", func := "scantling/scantlinglaw04.SealOne", spec := "sealOne", unfollowed := true, recurses := true, apart := false }
def SealOneSaid : Prop := sealOneRow.holds Try.pinned (OpenSpec.ofChange sealOneSpec)

/-- ITS FALSE NEIGHBOUR: 'it returns false'. Refute it at one input. -/
def sealOneWrong : ChangeSpec := { name := "sealOne", fn := fun _ => fun
  | [d1, d2, d3] => { results := [.lit (.bool false)], args := [d1, d2, d3] }
  | _ => none }
def SealOneWrongFalsely : Prop := sealOneRow.holds Try.pinned (OpenSpec.ofChange sealOneWrong)

/-- 'scantlinglaw04.SealOpens': WHATEVER THE INPUT: true; the input reads as it did. -/
def sealOpensSpec : ChangeSpec := { name := "sealOpens", fn := fun _ => fun
  | [d1, d2, d3] => { results := [.lit (.bool true)], args := [d1, d2, d3] }
  | _ => none }
def sealOpensRow : OpenClaim := { program := "ytilkcecjciiboaa", sum := "b84ef99735da82456fe5fafdfa6fc16d812eec50c3c0fdf3ab622dbc8c6583ad", func := "scantling/scantlinglaw04.SealOpens", spec := "sealOpens", unfollowed := true, recurses := true, apart := false }
def SealOpensSaid : Prop := sealOpensRow.holds Try.pinned (OpenSpec.ofChange sealOpensSpec)

/-- ITS FALSE NEIGHBOUR: 'it returns false'. Refute it at one input. -/
def sealOpensWrong : ChangeSpec := { name := "sealOpens", fn := fun _ => fun
  | [d1, d2, d3] => { results := [.lit (.bool false)], args := [d1, d2, d3] }
  | _ => none }
def SealOpensWrongFalsely : Prop := sealOpensRow.holds Try.pinned (OpenSpec.ofChange sealOpensWrong)

/-- 'scantlinglaw04.SealBack': WHATEVER THE INPUT: true; the input reads as it did. -/
def sealBackSpec : ChangeSpec := { name := "sealBack", fn := fun _ => fun
  | [d1, d2, d3, d4, d5] => { results := [.lit (.bool true)], args := [d1, d2, d3, d4, d5] }
  | _ => none }
def sealBackRow : OpenClaim := { program := "ytilkcecjciiboaa", sum := "b84ef99735da82456fe5fafdfa6fc16d812eec50c3c0fdf3ab622dbc8c6583ad", func := "scantling/scantlinglaw04.SealBack", spec := "sealBack", unfollowed := true, recurses := true, apart := false }
def SealBackSaid : Prop := sealBackRow.holds Try.pinned (OpenSpec.ofChange sealBackSpec)

/-- ITS FALSE NEIGHBOUR: 'it returns false'. Refute it at one input. -/
def sealBackWrong : ChangeSpec := { name := "sealBack", fn := fun _ => fun
  | [d1, d2, d3, d4, d5] => { results := [.lit (.bool false)], args := [d1, d2, d3, d4, d5] }
  | _ => none }
def SealBackWrongFalsely : Prop := sealBackRow.holds Try.pinned (OpenSpec.ofChange sealBackWrong)

/-- 'scantlinglaw10.SlotsPuts': WHATEVER THE INPUT: true; the input reads as it did. -/
def slotsPutsSpec : ChangeSpec := { name := "slotsPuts", fn := fun _ => fun
  | [d] => { results := [.lit (.bool true)], args := [d] }
  | _ => none }
def slotsPutsRow : OpenClaim := { program := "ytilkcecjciiboaa", sum := "b84ef99735da82456fe5fafdfa6fc16d812eec50c3c0fdf3ab622dbc8c6583ad", func := "scantling/scantlinglaw10.SlotsPuts", spec := "slotsPuts", unfollowed := true, recurses := true, apart := false }
def SlotsPutsSaid : Prop := slotsPutsRow.holds Try.pinned (OpenSpec.ofChange slotsPutsSpec)

/-- ITS FALSE NEIGHBOUR: 'it returns false'. Refute it at one input. -/
def slotsPutsWrong : ChangeSpec := { name := "slotsPuts", fn := fun _ => fun
  | [d] => { results := [.lit (.bool false)], args := [d] }
  | _ => none }
def SlotsPutsWrongFalsely : Prop := slotsPutsRow.holds Try.pinned (OpenSpec.ofChange slotsPutsWrong)

/-- 'scantlinglaw10.SlotsReads': WHATEVER THE INPUT: true; the input reads as it did. -/
def slotsReadsSpec : ChangeSpec := { name := "slotsReads", fn := fun _ => fun
  | [d] => { results := [.lit (.bool true)], args := [d] }
  | _ => none }
def slotsReadsRow : OpenClaim := { program := "ytilkcecjciiboaa", sum := "b84ef99735da82456fe5fafdfa6fc16d812eec50c3c0fdf3ab622dbc8c6583ad", func := "scantling/scantlinglaw10.SlotsReads", spec := "slotsReads", unfollowed := true, recurses := true, apart := false }
def SlotsReadsSaid : Prop := slotsReadsRow.holds Try.pinned (OpenSpec.ofChange slotsReadsSpec)

/-- ITS FALSE NEIGHBOUR: 'it returns false'. Refute it at one input. -/
def slotsReadsWrong : ChangeSpec := { name := "slotsReads", fn := fun _ => fun
  | [d] => { results := [.lit (.bool false)], args := [d] }
  | _ => none }
def SlotsReadsWrongFalsely : Prop := slotsReadsRow.holds Try.pinned (OpenSpec.ofChange slotsReadsWrong)

/-- 'scantlinglaw10.SlotsBack': WHATEVER THE INPUT: true; the input reads as it did. -/
def slotsBackSpec : ChangeSpec := { name := "slotsBack", fn := fun _ => fun
  | [d1, d2] => { results := [.lit (.bool true)], args := [d1, d2] }
  | _ => none }
def slotsBackRow : OpenClaim := { program := "ytilkcecjciiboaa", sum := "b84ef99735da82456fe5fafdfa6fc16d812eec50c3c0fdf3ab622dbc8c6583ad", func := "scantling/scantlinglaw10.SlotsBack", spec := "slotsBack", unfollowed := true, recurses := true, apart := false }
def SlotsBackSaid : Prop := slotsBackRow.holds Try.pinned (OpenSpec.ofChange slotsBackSpec)

/-- ITS FALSE NEIGHBOUR: 'it returns false'. Refute it at one input. -/
def slotsBackWrong : ChangeSpec := { name := "slotsBack", fn := fun _ => fun
  | [d1, d2] => { results := [.lit (.bool false)], args := [d1, d2] }
  | _ => none }
def SlotsBackWrongFalsely : Prop := slotsBackRow.holds Try.pinned (OpenSpec.ofChange slotsBackWrong)

/-- 'scantlinglaw07.NodeReads': WHATEVER THE INPUT: true; the input reads as it did. -/
def nodeReadsSpec : ChangeSpec := { name := "nodeReads", fn := fun _ => fun
  | [d] => { results := [.lit (.bool true)], args := [d] }
  | _ => none }
def nodeReadsRow : OpenClaim := { program := "ytilkcecjciiboaa", sum := "b84ef99735da82456fe5fafdfa6fc16d812eec50c3c0fdf3ab622dbc8c6583ad", func := "scantling/scantlinglaw07.NodeReads", spec := "nodeReads", unfollowed := true, recurses := true, apart := false }
def NodeReadsSaid : Prop := nodeReadsRow.holds Try.pinned (OpenSpec.ofChange nodeReadsSpec)

/-- ITS FALSE NEIGHBOUR: 'it returns false'. Refute it at one input. -/
def nodeReadsWrong : ChangeSpec := { name := "nodeReads", fn := fun _ => fun
  | [d] => { results := [.lit (.bool false)], args := [d] }
  | _ => none }
def NodeReadsWrongFalsely : Prop := nodeReadsRow.holds Try.pinned (OpenSpec.ofChange nodeReadsWrong)

/-- 'scantlinglaw07.NodeBack': WHATEVER THE INPUT: true; the input reads as it did. -/
def nodeBackSpec : ChangeSpec := { name := "nodeBack", fn := fun _ => fun
  | [d1, d2] => { results := [.lit (.bool true)], args := [d1, d2] }
  | _ => none }
def nodeBackRow : OpenClaim := { program := "ytilkcecjciiboaa", sum := "b84ef99735da82456fe5fafdfa6fc16d812eec50c3c0fdf3ab622dbc8c6583ad", func := "scantling/scantlinglaw07.NodeBack", spec := "nodeBack", unfollowed := true, recurses := true, apart := false }
def NodeBackSaid : Prop := nodeBackRow.holds Try.pinned (OpenSpec.ofChange nodeBackSpec)

/-- ITS FALSE NEIGHBOUR: 'it returns false'. Refute it at one input. -/
def nodeBackWrong : ChangeSpec := { name := "nodeBack", fn := fun _ => fun
  | [d1, d2] => { results := [.lit (.bool false)], args := [d1, d2] }
  | _ => none }
def NodeBackWrongFalsely : Prop := nodeBackRow.holds Try.pinned (OpenSpec.ofChange nodeBackWrong)

/- THE SECOND FORM. 'bulk': how many values and letters a reading holds, each counted each time it is reached (what is shared counts as often as it is met; a slice's spare places count too). A statement '..UptoSaid' is the law's where the arguments, and the package variables that the reading takes, are together of bulk at most 1048576: NARROWER than '..Said'. Prove '..Said' where nothing that the law and all that it calls make is longer than what came in: it says more and counts as full. Else prove '..UptoSaid'. A law counts once. -/
mutual
def uptoBulk {H : Type} : DataW H → Nat
  | .lit (.string bytes) => bytes.length + 1
  | .lit _ => 1
  | .nil => 1
  | .ptr d => uptoBulk d + 1
  | .slice elems spare => uptoBulkAll elems + uptoBulkAll spare + 1
  | .agg parts => uptoBulkAll parts + 1
  | .iface _ d => uptoBulk d + 1
  | .map entries => uptoBulkEntries entries + 1
  | .held _ => 1
def uptoBulkAll {H : Type} : List (DataW H) → Nat
  | [] => 0
  | d :: r => uptoBulk d + uptoBulkAll r
def uptoBulkEntries {H : Type} : List (Lit × DataW H) → Nat
  | [] => 0
  | x :: r => uptoBulkEntry x + uptoBulkEntries r
def uptoBulkEntry {H : Type} : Lit × DataW H → Nat
  | (.string bytes, d) => bytes.length + uptoBulk d + 1
  | (_, d) => uptoBulk d + 1
 end
def uptoSmall : (H : Type) → List (DataW H) → Bool := fun _ ds => decide (uptoBulkAll ds ≤ 1048576)
def OpenSpec.upto (s : _root_.Go.ChangeSpec) : _root_.Go.OpenSpec := { _root_.Go.OpenSpec.ofChange s with cond := some uptoSmall }

/-- 'scantlinglaw44.SqueezeMakes', WHERE WHAT IT READS IS OF BULK AT MOST 1048576: true; the input reads as it did. -/
def squeezeMakesUptoRow : OpenClaim := { program := "ytilkcecjciiboaa", sum := "b84ef99735da82456fe5fafdfa6fc16d812eec50c3c0fdf3ab622dbc8c6583ad", func := "scantling/scantlinglaw44.SqueezeMakes", spec := "squeezeMakes", inPlace := ["internal/bytealg.MakeNoZero"], unfollowed := true, recurses := true, apart := false, narrowed := true }
def SqueezeMakesUptoSaid : Prop := squeezeMakesUptoRow.holds Try.pinned (OpenSpec.upto squeezeMakesSpec)

/-- 'scantlinglaw07.NodeMost', WHERE WHAT IT READS IS OF BULK AT MOST 1048576: true; the input reads as it did. -/
def nodeMostUptoRow : OpenClaim := { program := "ytilkcecjciiboaa", sum := "b84ef99735da82456fe5fafdfa6fc16d812eec50c3c0fdf3ab622dbc8c6583ad", func := "scantling/scantlinglaw07.NodeMost", spec := "nodeMost", apart := false, narrowed := true }
def NodeMostUptoSaid : Prop := nodeMostUptoRow.holds Try.pinned (OpenSpec.upto nodeMostSpec)

/-- 'scantlinglaw04.SealSeals', WHERE WHAT IT READS IS OF BULK AT MOST 1048576: true; the input reads as it did. -/
def sealSealsUptoRow : OpenClaim := { program := "ytilkcecjciiboaa", sum := "b84ef99735da82456fe5fafdfa6fc16d812eec50c3c0fdf3ab622dbc8c6583ad", func := "scantling/scantlinglaw04.SealSeals", spec := "sealSeals", apart := false, narrowed := true }
def SealSealsUptoSaid : Prop := sealSealsUptoRow.holds Try.pinned (OpenSpec.upto sealSealsSpec)

/-- 'scantlinglaw44.SqueezeReads', WHERE WHAT IT READS IS OF BULK AT MOST 1048576: true; the input reads as it did. -/
def squeezeReadsUptoRow : OpenClaim := { program := "ytilkcecjciiboaa", sum := "b84ef99735da82456fe5fafdfa6fc16d812eec50c3c0fdf3ab622dbc8c6583ad", func := "scantling/scantlinglaw44.SqueezeReads", spec := "squeezeReads", inPlace := ["internal/bytealg.MakeNoZero"], unfollowed := true, recurses := true, apart := false, narrowed := true }
def SqueezeReadsUptoSaid : Prop := squeezeReadsUptoRow.holds Try.pinned (OpenSpec.upto squeezeReadsSpec)

/-- 'scantlinglaw07.NodePuts', WHERE WHAT IT READS IS OF BULK AT MOST 1048576: true; the input reads as it did. -/
def nodePutsUptoRow : OpenClaim := { program := "ytilkcecjciiboaa", sum := "b84ef99735da82456fe5fafdfa6fc16d812eec50c3c0fdf3ab622dbc8c6583ad", func := "scantling/scantlinglaw07.NodePuts", spec := "nodePuts", apart := false, narrowed := true }
def NodePutsUptoSaid : Prop := nodePutsUptoRow.holds Try.pinned (OpenSpec.upto nodePutsSpec)

/-- 'scantlinglaw44.SqueezeBack', WHERE WHAT IT READS IS OF BULK AT MOST 1048576: true; the input reads as it did. -/
def squeezeBackUptoRow : OpenClaim := { program := "ytilkcecjciiboaa", sum := "b84ef99735da82456fe5fafdfa6fc16d812eec50c3c0fdf3ab622dbc8c6583ad", func := "scantling/scantlinglaw44.SqueezeBack", spec := "squeezeBack", inPlace := ["internal/bytealg.MakeNoZero"], unfollowed := true, recurses := true, apart := false, narrowed := true }
def SqueezeBackUptoSaid : Prop := squeezeBackUptoRow.holds Try.pinned (OpenSpec.upto squeezeBackSpec)

/-- 'scantlinglaw04.SealOne', WHERE WHAT IT READS IS OF BULK AT MOST 1048576: true; the input reads as it did. -/
def sealOneUptoRow : OpenClaim := { program := "ytilkcecjciiboaa", sum := "b84ef99735da82456fe5fafdfa6fc16d812eec50c3c0fdf3ab622dbc8c6583ad", func := "scantling/scantlinglaw04.SealOne", spec := "sealOne", unfollowed := true, recurses := true, apart := false, narrowed := true }
def SealOneUptoSaid : Prop := sealOneUptoRow.holds Try.pinned (OpenSpec.upto sealOneSpec)

/-- 'scantlinglaw04.SealOpens', WHERE WHAT IT READS IS OF BULK AT MOST 1048576: true; the input reads as it did. -/
def sealOpensUptoRow : OpenClaim := { program := "ytilkcecjciiboaa", sum := "b84ef99735da82456fe5fafdfa6fc16d812eec50c3c0fdf3ab622dbc8c6583ad", func := "scantling/scantlinglaw04.SealOpens", spec := "sealOpens", unfollowed := true, recurses := true, apart := false, narrowed := true }
def SealOpensUptoSaid : Prop := sealOpensUptoRow.holds Try.pinned (OpenSpec.upto sealOpensSpec)

/-- 'scantlinglaw04.SealBack', WHERE WHAT IT READS IS OF BULK AT MOST 1048576: true; the input reads as it did. -/
def sealBackUptoRow : OpenClaim := { program := "ytilkcecjciiboaa", sum := "b84ef99735da82456fe5fafdfa6fc16d812eec50c3c0fdf3ab622dbc8c6583ad", func := "scantling/scantlinglaw04.SealBack", spec := "sealBack", unfollowed := true, recurses := true, apart := false, narrowed := true }
def SealBackUptoSaid : Prop := sealBackUptoRow.holds Try.pinned (OpenSpec.upto sealBackSpec)

/-- 'scantlinglaw10.SlotsPuts', WHERE WHAT IT READS IS OF BULK AT MOST 1048576: true; the input reads as it did. -/
def slotsPutsUptoRow : OpenClaim := { program := "ytilkcecjciiboaa", sum := "b84ef99735da82456fe5fafdfa6fc16d812eec50c3c0fdf3ab622dbc8c6583ad", func := "scantling/scantlinglaw10.SlotsPuts", spec := "slotsPuts", unfollowed := true, recurses := true, apart := false, narrowed := true }
def SlotsPutsUptoSaid : Prop := slotsPutsUptoRow.holds Try.pinned (OpenSpec.upto slotsPutsSpec)

/-- 'scantlinglaw10.SlotsReads', WHERE WHAT IT READS IS OF BULK AT MOST 1048576: true; the input reads as it did. -/
def slotsReadsUptoRow : OpenClaim := { program := "ytilkcecjciiboaa", sum := "b84ef99735da82456fe5fafdfa6fc16d812eec50c3c0fdf3ab622dbc8c6583ad", func := "scantling/scantlinglaw10.SlotsReads", spec := "slotsReads", unfollowed := true, recurses := true, apart := false, narrowed := true }
def SlotsReadsUptoSaid : Prop := slotsReadsUptoRow.holds Try.pinned (OpenSpec.upto slotsReadsSpec)

/-- 'scantlinglaw10.SlotsBack', WHERE WHAT IT READS IS OF BULK AT MOST 1048576: true; the input reads as it did. -/
def slotsBackUptoRow : OpenClaim := { program := "ytilkcecjciiboaa", sum := "b84ef99735da82456fe5fafdfa6fc16d812eec50c3c0fdf3ab622dbc8c6583ad", func := "scantling/scantlinglaw10.SlotsBack", spec := "slotsBack", unfollowed := true, recurses := true, apart := false, narrowed := true }
def SlotsBackUptoSaid : Prop := slotsBackUptoRow.holds Try.pinned (OpenSpec.upto slotsBackSpec)

/-- 'scantlinglaw07.NodeReads', WHERE WHAT IT READS IS OF BULK AT MOST 1048576: true; the input reads as it did. -/
def nodeReadsUptoRow : OpenClaim := { program := "ytilkcecjciiboaa", sum := "b84ef99735da82456fe5fafdfa6fc16d812eec50c3c0fdf3ab622dbc8c6583ad", func := "scantling/scantlinglaw07.NodeReads", spec := "nodeReads", unfollowed := true, recurses := true, apart := false, narrowed := true }
def NodeReadsUptoSaid : Prop := nodeReadsUptoRow.holds Try.pinned (OpenSpec.upto nodeReadsSpec)

/-- 'scantlinglaw07.NodeBack', WHERE WHAT IT READS IS OF BULK AT MOST 1048576: true; the input reads as it did. -/
def nodeBackUptoRow : OpenClaim := { program := "ytilkcecjciiboaa", sum := "b84ef99735da82456fe5fafdfa6fc16d812eec50c3c0fdf3ab622dbc8c6583ad", func := "scantling/scantlinglaw07.NodeBack", spec := "nodeBack", unfollowed := true, recurses := true, apart := false, narrowed := true }
def NodeBackUptoSaid : Prop := nodeBackUptoRow.holds Try.pinned (OpenSpec.upto nodeBackSpec)

end Rows
end Go.Proofs.Ytilkcecjciiboaa
