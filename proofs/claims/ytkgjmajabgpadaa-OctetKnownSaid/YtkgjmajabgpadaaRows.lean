/-
  No cell of these rows narrows 'for every input' (looked for: loops, veiled, ifaces, maps, wideKeys, modest, calm, conditions, laid).
  DERIVED. THE GIVEN ROWS OF THIS SEAT. 16 by the template 'for every input the law returns true; each argument reads behind the call as it read before'; 0 by the template 'total and deterministic' (their statements: YtkgjmajabgpadaaTotals.lean).
  GIVEN WITH THE SEED: the statements are not yours to turn. If you find one false, say at which input.
  Laid BY PROGRAM, IN A SANDBOX (cutbox-rows.mjs): the forced cells as the released guide's own fill.sh prints them over the translation 35193f99215560ab… (all of the seat's roots in one cut). By AI agents, Wed Nov 11 2026. No macro, syntax, notation, axiom, sorry.
-/
import Derived.Test.YtkgjmajabgpadaaChecked
import GoSem.Claim
import GoSem.ClaimJoined
import GoSem.ClaimMapViews
import Derived.JoinedTies
import Derived.KernelRfl
namespace Go.Proofs.Ytkgjmajabgpadaa
/- THE CELL 'sum', in the pinned program and in every row, IS THE sha256 OF THE DUMP (.gsa) THAT YtkgjmajabgpadaaProg.lean LOADS. Nothing in Lean hashes anything: it is a label: what it is worth is what the hold of that sum in a sandbox is worth. -/
noncomputable def Try.pinned : Pinned := { name := "ytkgjmajabgpadaa", sum := "35193f99215560ab2bdbf26e3ca002d9702e7475a5aac2d4791f8e51dac5cef8", checked := Try.checked }
namespace Rows
def none {H : Type} : Left H := { results := [], args := [] }

/-- 'catenarylaw01.OctetPuts': WHATEVER THE INPUT: true; the input reads as it did. -/
def octetPutsSpec : ChangeSpec := { name := "octetPuts", fn := fun _ => fun
  | [d1, d2, d3] => { results := [.lit (.bool true)], args := [d1, d2, d3] }
  | _ => none }
def octetPutsRow : OpenClaim := { program := "ytkgjmajabgpadaa", sum := "35193f99215560ab2bdbf26e3ca002d9702e7475a5aac2d4791f8e51dac5cef8", func := "catenary/catenarylaw01.OctetPuts", spec := "octetPuts", apart := false }
def OctetPutsSaid : Prop := octetPutsRow.holds Try.pinned (OpenSpec.ofChange octetPutsSpec)

/-- ITS FALSE NEIGHBOUR: 'it returns false'. Refute it at one input. -/
def octetPutsWrong : ChangeSpec := { name := "octetPuts", fn := fun _ => fun
  | [d1, d2, d3] => { results := [.lit (.bool false)], args := [d1, d2, d3] }
  | _ => none }
def OctetPutsWrongFalsely : Prop := octetPutsRow.holds Try.pinned (OpenSpec.ofChange octetPutsWrong)

/-- 'catenarylaw01.OctetOpens': WHATEVER THE INPUT: true; the input reads as it did. -/
def octetOpensSpec : ChangeSpec := { name := "octetOpens", fn := fun _ => fun
  | [d] => { results := [.lit (.bool true)], args := [d] }
  | _ => none }
def octetOpensRow : OpenClaim := { program := "ytkgjmajabgpadaa", sum := "35193f99215560ab2bdbf26e3ca002d9702e7475a5aac2d4791f8e51dac5cef8", func := "catenary/catenarylaw01.OctetOpens", spec := "octetOpens", apart := false }
def OctetOpensSaid : Prop := octetOpensRow.holds Try.pinned (OpenSpec.ofChange octetOpensSpec)

/-- ITS FALSE NEIGHBOUR: 'it returns false'. Refute it at one input. -/
def octetOpensWrong : ChangeSpec := { name := "octetOpens", fn := fun _ => fun
  | [d] => { results := [.lit (.bool false)], args := [d] }
  | _ => none }
def OctetOpensWrongFalsely : Prop := octetOpensRow.holds Try.pinned (OpenSpec.ofChange octetOpensWrong)

/-- 'catenarylaw01.OctetTurned': WHATEVER THE INPUT: true; the input reads as it did. -/
def octetTurnedSpec : ChangeSpec := { name := "octetTurned", fn := fun _ => fun
  | [d1, d2, d3] => { results := [.lit (.bool true)], args := [d1, d2, d3] }
  | _ => none }
def octetTurnedRow : OpenClaim := { program := "ytkgjmajabgpadaa", sum := "35193f99215560ab2bdbf26e3ca002d9702e7475a5aac2d4791f8e51dac5cef8", func := "catenary/catenarylaw01.OctetTurned", spec := "octetTurned", apart := false }
def OctetTurnedSaid : Prop := octetTurnedRow.holds Try.pinned (OpenSpec.ofChange octetTurnedSpec)

/-- ITS FALSE NEIGHBOUR: 'it returns false'. Refute it at one input. -/
def octetTurnedWrong : ChangeSpec := { name := "octetTurned", fn := fun _ => fun
  | [d1, d2, d3] => { results := [.lit (.bool false)], args := [d1, d2, d3] }
  | _ => none }
def OctetTurnedWrongFalsely : Prop := octetTurnedRow.holds Try.pinned (OpenSpec.ofChange octetTurnedWrong)

/-- 'catenarylaw04.ProbeBytes': WHATEVER THE INPUT: true; the input reads as it did. -/
def probeBytesSpec : ChangeSpec := { name := "probeBytes", fn := fun _ => fun
  | [d] => { results := [.lit (.bool true)], args := [d] }
  | _ => none }
def probeBytesRow : OpenClaim := { program := "ytkgjmajabgpadaa", sum := "35193f99215560ab2bdbf26e3ca002d9702e7475a5aac2d4791f8e51dac5cef8", func := "catenary/catenarylaw04.ProbeBytes", spec := "probeBytes", unfollowed := true, recurses := true, apart := false }
def ProbeBytesSaid : Prop := probeBytesRow.holds Try.pinned (OpenSpec.ofChange probeBytesSpec)

/-- ITS FALSE NEIGHBOUR: 'it returns false'. Refute it at one input. -/
def probeBytesWrong : ChangeSpec := { name := "probeBytes", fn := fun _ => fun
  | [d] => { results := [.lit (.bool false)], args := [d] }
  | _ => none }
def ProbeBytesWrongFalsely : Prop := probeBytesRow.holds Try.pinned (OpenSpec.ofChange probeBytesWrong)

/-- 'catenarylaw04.ProbeFinds': WHATEVER THE INPUT: true; the input reads as it did. -/
def probeFindsSpec : ChangeSpec := { name := "probeFinds", fn := fun _ => fun
  | [d1, d2, d3] => { results := [.lit (.bool true)], args := [d1, d2, d3] }
  | _ => none }
def probeFindsRow : OpenClaim := { program := "ytkgjmajabgpadaa", sum := "35193f99215560ab2bdbf26e3ca002d9702e7475a5aac2d4791f8e51dac5cef8", func := "catenary/catenarylaw04.ProbeFinds", spec := "probeFinds", unfollowed := true, recurses := true, apart := false }
def ProbeFindsSaid : Prop := probeFindsRow.holds Try.pinned (OpenSpec.ofChange probeFindsSpec)

/-- ITS FALSE NEIGHBOUR: 'it returns false'. Refute it at one input. -/
def probeFindsWrong : ChangeSpec := { name := "probeFinds", fn := fun _ => fun
  | [d1, d2, d3] => { results := [.lit (.bool false)], args := [d1, d2, d3] }
  | _ => none }
def ProbeFindsWrongFalsely : Prop := probeFindsRow.holds Try.pinned (OpenSpec.ofChange probeFindsWrong)

/-- 'catenarylaw01.OctetReads': WHATEVER THE INPUT: true; the input reads as it did. -/
def octetReadsSpec : ChangeSpec := { name := "octetReads", fn := fun _ => fun
  | [d1, d2] => { results := [.lit (.bool true)], args := [d1, d2] }
  | _ => none }
def octetReadsRow : OpenClaim := { program := "ytkgjmajabgpadaa", sum := "35193f99215560ab2bdbf26e3ca002d9702e7475a5aac2d4791f8e51dac5cef8", func := "catenary/catenarylaw01.OctetReads", spec := "octetReads", apart := false }
def OctetReadsSaid : Prop := octetReadsRow.holds Try.pinned (OpenSpec.ofChange octetReadsSpec)

/-- ITS FALSE NEIGHBOUR: 'it returns false'. Refute it at one input. -/
def octetReadsWrong : ChangeSpec := { name := "octetReads", fn := fun _ => fun
  | [d1, d2] => { results := [.lit (.bool false)], args := [d1, d2] }
  | _ => none }
def OctetReadsWrongFalsely : Prop := octetReadsRow.holds Try.pinned (OpenSpec.ofChange octetReadsWrong)

/-- 'catenarylaw01.OctetBack': WHATEVER THE INPUT: true; the input reads as it did. -/
def octetBackSpec : ChangeSpec := { name := "octetBack", fn := fun _ => fun
  | [d1, d2, d3] => { results := [.lit (.bool true)], args := [d1, d2, d3] }
  | _ => none }
def octetBackRow : OpenClaim := { program := "ytkgjmajabgpadaa", sum := "35193f99215560ab2bdbf26e3ca002d9702e7475a5aac2d4791f8e51dac5cef8", func := "catenary/catenarylaw01.OctetBack", spec := "octetBack", apart := false }
def OctetBackSaid : Prop := octetBackRow.holds Try.pinned (OpenSpec.ofChange octetBackSpec)

/-- ITS FALSE NEIGHBOUR: 'it returns false'. Refute it at one input. -/
def octetBackWrong : ChangeSpec := { name := "octetBack", fn := fun _ => fun
  | [d1, d2, d3] => { results := [.lit (.bool false)], args := [d1, d2, d3] }
  | _ => none }
def OctetBackWrongFalsely : Prop := octetBackRow.holds Try.pinned (OpenSpec.ofChange octetBackWrong)

/-- 'catenarylaw01.OctetKnown': WHATEVER THE INPUT: true; the input reads as it did. -/
def octetKnownSpec : ChangeSpec := { name := "octetKnown", fn := fun _ => fun
  | [] => { results := [.lit (.bool true)], args := [] }
  | _ => none }
def octetKnownRow : OpenClaim := { program := "ytkgjmajabgpadaa", sum := "35193f99215560ab2bdbf26e3ca002d9702e7475a5aac2d4791f8e51dac5cef8", func := "catenary/catenarylaw01.OctetKnown", spec := "octetKnown", apart := false }
def OctetKnownSaid : Prop := octetKnownRow.holds Try.pinned (OpenSpec.ofChange octetKnownSpec)

/-- ITS FALSE NEIGHBOUR: 'it returns false'. Refute it at one input. -/
def octetKnownWrong : ChangeSpec := { name := "octetKnown", fn := fun _ => fun
  | [] => { results := [.lit (.bool false)], args := [] }
  | _ => none }
def OctetKnownWrongFalsely : Prop := octetKnownRow.holds Try.pinned (OpenSpec.ofChange octetKnownWrong)

/-- 'catenarylaw03.DatumBytes': WHATEVER THE INPUT: true; the input reads as it did. -/
def datumBytesSpec : ChangeSpec := { name := "datumBytes", fn := fun _ => fun
  | [d] => { results := [.lit (.bool true)], args := [d] }
  | _ => none }
def datumBytesRow : OpenClaim := { program := "ytkgjmajabgpadaa", sum := "35193f99215560ab2bdbf26e3ca002d9702e7475a5aac2d4791f8e51dac5cef8", func := "catenary/catenarylaw03.DatumBytes", spec := "datumBytes", unfollowed := true, recurses := true, apart := false }
def DatumBytesSaid : Prop := datumBytesRow.holds Try.pinned (OpenSpec.ofChange datumBytesSpec)

/-- ITS FALSE NEIGHBOUR: 'it returns false'. Refute it at one input. -/
def datumBytesWrong : ChangeSpec := { name := "datumBytes", fn := fun _ => fun
  | [d] => { results := [.lit (.bool false)], args := [d] }
  | _ => none }
def DatumBytesWrongFalsely : Prop := datumBytesRow.holds Try.pinned (OpenSpec.ofChange datumBytesWrong)

/-- 'catenarylaw03.DatumParses': WHATEVER THE INPUT: true; the input reads as it did. -/
def datumParsesSpec : ChangeSpec := { name := "datumParses", fn := fun _ => fun
  | [d] => { results := [.lit (.bool true)], args := [d] }
  | _ => none }
def datumParsesRow : OpenClaim := { program := "ytkgjmajabgpadaa", sum := "35193f99215560ab2bdbf26e3ca002d9702e7475a5aac2d4791f8e51dac5cef8", func := "catenary/catenarylaw03.DatumParses", spec := "datumParses", unfollowed := true, recurses := true, apart := false }
def DatumParsesSaid : Prop := datumParsesRow.holds Try.pinned (OpenSpec.ofChange datumParsesSpec)

/-- ITS FALSE NEIGHBOUR: 'it returns false'. Refute it at one input. -/
def datumParsesWrong : ChangeSpec := { name := "datumParses", fn := fun _ => fun
  | [d] => { results := [.lit (.bool false)], args := [d] }
  | _ => none }
def DatumParsesWrongFalsely : Prop := datumParsesRow.holds Try.pinned (OpenSpec.ofChange datumParsesWrong)

/-- 'catenarylaw03.DatumBack': WHATEVER THE INPUT: true; the input reads as it did. -/
def datumBackSpec : ChangeSpec := { name := "datumBack", fn := fun _ => fun
  | [d] => { results := [.lit (.bool true)], args := [d] }
  | _ => none }
def datumBackRow : OpenClaim := { program := "ytkgjmajabgpadaa", sum := "35193f99215560ab2bdbf26e3ca002d9702e7475a5aac2d4791f8e51dac5cef8", func := "catenary/catenarylaw03.DatumBack", spec := "datumBack", unfollowed := true, recurses := true, apart := false }
def DatumBackSaid : Prop := datumBackRow.holds Try.pinned (OpenSpec.ofChange datumBackSpec)

/-- ITS FALSE NEIGHBOUR: 'it returns false'. Refute it at one input. -/
def datumBackWrong : ChangeSpec := { name := "datumBack", fn := fun _ => fun
  | [d] => { results := [.lit (.bool false)], args := [d] }
  | _ => none }
def DatumBackWrongFalsely : Prop := datumBackRow.holds Try.pinned (OpenSpec.ofChange datumBackWrong)

/-- 'catenarylaw03.DatumAgain': WHATEVER THE INPUT: true; the input reads as it did. -/
def datumAgainSpec : ChangeSpec := { name := "datumAgain", fn := fun _ => fun
  | [d1, d2] => { results := [.lit (.bool true)], args := [d1, d2] }
  | _ => none }
def datumAgainRow : OpenClaim := { program := "ytkgjmajabgpadaa", sum := "35193f99215560ab2bdbf26e3ca002d9702e7475a5aac2d4791f8e51dac5cef8", func := "catenary/catenarylaw03.DatumAgain", spec := "datumAgain", unfollowed := true, recurses := true, apart := false }
def DatumAgainSaid : Prop := datumAgainRow.holds Try.pinned (OpenSpec.ofChange datumAgainSpec)

/-- ITS FALSE NEIGHBOUR: 'it returns false'. Refute it at one input. -/
def datumAgainWrong : ChangeSpec := { name := "datumAgain", fn := fun _ => fun
  | [d1, d2] => { results := [.lit (.bool false)], args := [d1, d2] }
  | _ => none }
def DatumAgainWrongFalsely : Prop := datumAgainRow.holds Try.pinned (OpenSpec.ofChange datumAgainWrong)

/-- 'catenarylaw03.DatumTurned': WHATEVER THE INPUT: true; the input reads as it did. -/
def datumTurnedSpec : ChangeSpec := { name := "datumTurned", fn := fun _ => fun
  | [d1, d2, d3] => { results := [.lit (.bool true)], args := [d1, d2, d3] }
  | _ => none }
def datumTurnedRow : OpenClaim := { program := "ytkgjmajabgpadaa", sum := "35193f99215560ab2bdbf26e3ca002d9702e7475a5aac2d4791f8e51dac5cef8", func := "catenary/catenarylaw03.DatumTurned", spec := "datumTurned", unfollowed := true, recurses := true, apart := false }
def DatumTurnedSaid : Prop := datumTurnedRow.holds Try.pinned (OpenSpec.ofChange datumTurnedSpec)

/-- ITS FALSE NEIGHBOUR: 'it returns false'. Refute it at one input. -/
def datumTurnedWrong : ChangeSpec := { name := "datumTurned", fn := fun _ => fun
  | [d1, d2, d3] => { results := [.lit (.bool false)], args := [d1, d2, d3] }
  | _ => none }
def DatumTurnedWrongFalsely : Prop := datumTurnedRow.holds Try.pinned (OpenSpec.ofChange datumTurnedWrong)

/-- 'catenarylaw03.DatumKnown': WHATEVER THE INPUT: true; the input reads as it did. -/
def datumKnownSpec : ChangeSpec := { name := "datumKnown", fn := fun _ => fun
  | [] => { results := [.lit (.bool true)], args := [] }
  | _ => none }
def datumKnownRow : OpenClaim := { program := "ytkgjmajabgpadaa", sum := "35193f99215560ab2bdbf26e3ca002d9702e7475a5aac2d4791f8e51dac5cef8", func := "catenary/catenarylaw03.DatumKnown", spec := "datumKnown", unfollowed := true, recurses := true, apart := false }
def DatumKnownSaid : Prop := datumKnownRow.holds Try.pinned (OpenSpec.ofChange datumKnownSpec)

/-- ITS FALSE NEIGHBOUR: 'it returns false'. Refute it at one input. -/
def datumKnownWrong : ChangeSpec := { name := "datumKnown", fn := fun _ => fun
  | [] => { results := [.lit (.bool false)], args := [] }
  | _ => none }
def DatumKnownWrongFalsely : Prop := datumKnownRow.holds Try.pinned (OpenSpec.ofChange datumKnownWrong)

/-- 'catenarylaw04.ProbeParses': WHATEVER THE INPUT: true; the input reads as it did. -/
def probeParsesSpec : ChangeSpec := { name := "probeParses", fn := fun _ => fun
  | [d] => { results := [.lit (.bool true)], args := [d] }
  | _ => none }
def probeParsesRow : OpenClaim := { program := "ytkgjmajabgpadaa", sum := "35193f99215560ab2bdbf26e3ca002d9702e7475a5aac2d4791f8e51dac5cef8", func := "catenary/catenarylaw04.ProbeParses", spec := "probeParses", unfollowed := true, recurses := true, apart := false }
def ProbeParsesSaid : Prop := probeParsesRow.holds Try.pinned (OpenSpec.ofChange probeParsesSpec)

/-- ITS FALSE NEIGHBOUR: 'it returns false'. Refute it at one input. -/
def probeParsesWrong : ChangeSpec := { name := "probeParses", fn := fun _ => fun
  | [d] => { results := [.lit (.bool false)], args := [d] }
  | _ => none }
def ProbeParsesWrongFalsely : Prop := probeParsesRow.holds Try.pinned (OpenSpec.ofChange probeParsesWrong)

/-- 'catenarylaw04.ProbeBack': WHATEVER THE INPUT: true; the input reads as it did. -/
def probeBackSpec : ChangeSpec := { name := "probeBack", fn := fun _ => fun
  | [d] => { results := [.lit (.bool true)], args := [d] }
  | _ => none }
def probeBackRow : OpenClaim := { program := "ytkgjmajabgpadaa", sum := "35193f99215560ab2bdbf26e3ca002d9702e7475a5aac2d4791f8e51dac5cef8", func := "catenary/catenarylaw04.ProbeBack", spec := "probeBack", unfollowed := true, recurses := true, apart := false }
def ProbeBackSaid : Prop := probeBackRow.holds Try.pinned (OpenSpec.ofChange probeBackSpec)

/-- ITS FALSE NEIGHBOUR: 'it returns false'. Refute it at one input. -/
def probeBackWrong : ChangeSpec := { name := "probeBack", fn := fun _ => fun
  | [d] => { results := [.lit (.bool false)], args := [d] }
  | _ => none }
def ProbeBackWrongFalsely : Prop := probeBackRow.holds Try.pinned (OpenSpec.ofChange probeBackWrong)

/- THE SECOND FORM. 'bulk': how many values and letters a reading holds, each counted each time it is reached (what is shared counts as often as it is met; a slice's spare places count too). A statement '..UptoSaid' is the law's where the arguments, and the package variables that the reading takes, are together of bulk at most 1048576: NARROWER than '..Said'. Prove '..Said' where nothing that the law and all that it calls make is longer than what came in: it says more and counts as full. Else prove '..UptoSaid'. A law counts once. -/
mutual
def uptoBulk {H : Type} : DataW H → Nat
  | .lit (.string bytes) => bytes.length + 1
  | .lit _ => 1
  | .nil => 1
  | .ptr d => uptoBulk d + 1
  | .slice elems spare => uptoBulkAll elems + uptoBulkAll spare + 1
  | .agg parts => uptoBulkAll parts + 1
  | .iface _ d => uptoBulk d + 1
  | .map entries => uptoBulkEntries entries + 1
  | .held _ => 1
def uptoBulkAll {H : Type} : List (DataW H) → Nat
  | [] => 0
  | d :: r => uptoBulk d + uptoBulkAll r
def uptoBulkEntries {H : Type} : List (Lit × DataW H) → Nat
  | [] => 0
  | x :: r => uptoBulkEntry x + uptoBulkEntries r
def uptoBulkEntry {H : Type} : Lit × DataW H → Nat
  | (.string bytes, d) => bytes.length + uptoBulk d + 1
  | (_, d) => uptoBulk d + 1
 end
def uptoSmall : (H : Type) → List (DataW H) → Bool := fun _ ds => decide (uptoBulkAll ds ≤ 1048576)
def OpenSpec.upto (s : _root_.Go.ChangeSpec) : _root_.Go.OpenSpec := { _root_.Go.OpenSpec.ofChange s with cond := some uptoSmall }

/-- 'catenarylaw01.OctetPuts', WHERE WHAT IT READS IS OF BULK AT MOST 1048576: true; the input reads as it did. -/
def octetPutsUptoRow : OpenClaim := { program := "ytkgjmajabgpadaa", sum := "35193f99215560ab2bdbf26e3ca002d9702e7475a5aac2d4791f8e51dac5cef8", func := "catenary/catenarylaw01.OctetPuts", spec := "octetPuts", apart := false, narrowed := true }
def OctetPutsUptoSaid : Prop := octetPutsUptoRow.holds Try.pinned (OpenSpec.upto octetPutsSpec)

/-- 'catenarylaw01.OctetOpens', WHERE WHAT IT READS IS OF BULK AT MOST 1048576: true; the input reads as it did. -/
def octetOpensUptoRow : OpenClaim := { program := "ytkgjmajabgpadaa", sum := "35193f99215560ab2bdbf26e3ca002d9702e7475a5aac2d4791f8e51dac5cef8", func := "catenary/catenarylaw01.OctetOpens", spec := "octetOpens", apart := false, narrowed := true }
def OctetOpensUptoSaid : Prop := octetOpensUptoRow.holds Try.pinned (OpenSpec.upto octetOpensSpec)

/-- 'catenarylaw01.OctetTurned', WHERE WHAT IT READS IS OF BULK AT MOST 1048576: true; the input reads as it did. -/
def octetTurnedUptoRow : OpenClaim := { program := "ytkgjmajabgpadaa", sum := "35193f99215560ab2bdbf26e3ca002d9702e7475a5aac2d4791f8e51dac5cef8", func := "catenary/catenarylaw01.OctetTurned", spec := "octetTurned", apart := false, narrowed := true }
def OctetTurnedUptoSaid : Prop := octetTurnedUptoRow.holds Try.pinned (OpenSpec.upto octetTurnedSpec)

/-- 'catenarylaw04.ProbeBytes', WHERE WHAT IT READS IS OF BULK AT MOST 1048576: true; the input reads as it did. -/
def probeBytesUptoRow : OpenClaim := { program := "ytkgjmajabgpadaa", sum := "35193f99215560ab2bdbf26e3ca002d9702e7475a5aac2d4791f8e51dac5cef8", func := "catenary/catenarylaw04.ProbeBytes", spec := "probeBytes", unfollowed := true, recurses := true, apart := false, narrowed := true }
def ProbeBytesUptoSaid : Prop := probeBytesUptoRow.holds Try.pinned (OpenSpec.upto probeBytesSpec)

/-- 'catenarylaw04.ProbeFinds', WHERE WHAT IT READS IS OF BULK AT MOST 1048576: true; the input reads as it did. -/
def probeFindsUptoRow : OpenClaim := { program := "ytkgjmajabgpadaa", sum := "35193f99215560ab2bdbf26e3ca002d9702e7475a5aac2d4791f8e51dac5cef8", func := "catenary/catenarylaw04.ProbeFinds", spec := "probeFinds", unfollowed := true, recurses := true, apart := false, narrowed := true }
def ProbeFindsUptoSaid : Prop := probeFindsUptoRow.holds Try.pinned (OpenSpec.upto probeFindsSpec)

/-- 'catenarylaw01.OctetReads', WHERE WHAT IT READS IS OF BULK AT MOST 1048576: true; the input reads as it did. -/
def octetReadsUptoRow : OpenClaim := { program := "ytkgjmajabgpadaa", sum := "35193f99215560ab2bdbf26e3ca002d9702e7475a5aac2d4791f8e51dac5cef8", func := "catenary/catenarylaw01.OctetReads", spec := "octetReads", apart := false, narrowed := true }
def OctetReadsUptoSaid : Prop := octetReadsUptoRow.holds Try.pinned (OpenSpec.upto octetReadsSpec)

/-- 'catenarylaw01.OctetBack', WHERE WHAT IT READS IS OF BULK AT MOST 1048576: true; the input reads as it did. -/
def octetBackUptoRow : OpenClaim := { program := "ytkgjmajabgpadaa", sum := "35193f99215560ab2bdbf26e3ca002d9702e7475a5aac2d4791f8e51dac5cef8", func := "catenary/catenarylaw01.OctetBack", spec := "octetBack", apart := false, narrowed := true }
def OctetBackUptoSaid : Prop := octetBackUptoRow.holds Try.pinned (OpenSpec.upto octetBackSpec)

/-- 'catenarylaw01.OctetKnown', WHERE WHAT IT READS IS OF BULK AT MOST 1048576: true; the input reads as it did. -/
def octetKnownUptoRow : OpenClaim := { program := "ytkgjmajabgpadaa", sum := "35193f99215560ab2bdbf26e3ca002d9702e7475a5aac2d4791f8e51dac5cef8", func := "catenary/catenarylaw01.OctetKnown", spec := "octetKnown", apart := false, narrowed := true }
def OctetKnownUptoSaid : Prop := octetKnownUptoRow.holds Try.pinned (OpenSpec.upto octetKnownSpec)

/-- 'catenarylaw03.DatumBytes', WHERE WHAT IT READS IS OF BULK AT MOST 1048576: true; the input reads as it did. -/
def datumBytesUptoRow : OpenClaim := { program := "ytkgjmajabgpadaa", sum := "35193f99215560ab2bdbf26e3ca002d9702e7475a5aac2d4791f8e51dac5cef8", func := "catenary/catenarylaw03.DatumBytes", spec := "datumBytes", unfollowed := true, recurses := true, apart := false, narrowed := true }
def DatumBytesUptoSaid : Prop := datumBytesUptoRow.holds Try.pinned (OpenSpec.upto datumBytesSpec)

/-- 'catenarylaw03.DatumParses', WHERE WHAT IT READS IS OF BULK AT MOST 1048576: true; the input reads as it did. -/
def datumParsesUptoRow : OpenClaim := { program := "ytkgjmajabgpadaa", sum := "35193f99215560ab2bdbf26e3ca002d9702e7475a5aac2d4791f8e51dac5cef8", func := "catenary/catenarylaw03.DatumParses", spec := "datumParses", unfollowed := true, recurses := true, apart := false, narrowed := true }
def DatumParsesUptoSaid : Prop := datumParsesUptoRow.holds Try.pinned (OpenSpec.upto datumParsesSpec)

/-- 'catenarylaw03.DatumBack', WHERE WHAT IT READS IS OF BULK AT MOST 1048576: true; the input reads as it did. -/
def datumBackUptoRow : OpenClaim := { program := "ytkgjmajabgpadaa", sum := "35193f99215560ab2bdbf26e3ca002d9702e7475a5aac2d4791f8e51dac5cef8", func := "catenary/catenarylaw03.DatumBack", spec := "datumBack", unfollowed := true, recurses := true, apart := false, narrowed := true }
def DatumBackUptoSaid : Prop := datumBackUptoRow.holds Try.pinned (OpenSpec.upto datumBackSpec)

/-- 'catenarylaw03.DatumAgain', WHERE WHAT IT READS IS OF BULK AT MOST 1048576: true; the input reads as it did. -/
def datumAgainUptoRow : OpenClaim := { program := "ytkgjmajabgpadaa", sum := "35193f99215560ab2bdbf26e3ca002d9702e7475a5aac2d4791f8e51dac5cef8", func := "catenary/catenarylaw03.DatumAgain", spec := "datumAgain", unfollowed := true, recurses := true, apart := false, narrowed := true }
def DatumAgainUptoSaid : Prop := datumAgainUptoRow.holds Try.pinned (OpenSpec.upto datumAgainSpec)

/-- 'catenarylaw03.DatumTurned', WHERE WHAT IT READS IS OF BULK AT MOST 1048576: true; the input reads as it did. -/
def datumTurnedUptoRow : OpenClaim := { program := "ytkgjmajabgpadaa", sum := "35193f99215560ab2bdbf26e3ca002d9702e7475a5aac2d4791f8e51dac5cef8", func := "catenary/catenarylaw03.DatumTurned", spec := "datumTurned", unfollowed := true, recurses := true, apart := false, narrowed := true }
def DatumTurnedUptoSaid : Prop := datumTurnedUptoRow.holds Try.pinned (OpenSpec.upto datumTurnedSpec)

/-- 'catenarylaw03.DatumKnown', WHERE WHAT IT READS IS OF BULK AT MOST 1048576: true; the input reads as it did. -/
def datumKnownUptoRow : OpenClaim := { program := "ytkgjmajabgpadaa", sum := "35193f99215560ab2bdbf26e3ca002d9702e7475a5aac2d4791f8e51dac5cef8", func := "catenary/catenarylaw03.DatumKnown", spec := "datumKnown", unfollowed := true, recurses := true, apart := false, narrowed := true }
def DatumKnownUptoSaid : Prop := datumKnownUptoRow.holds Try.pinned (OpenSpec.upto datumKnownSpec)

/-- 'catenarylaw04.ProbeParses', WHERE WHAT IT READS IS OF BULK AT MOST 1048576: true; the input reads as it did. -/
def probeParsesUptoRow : OpenClaim := { program := "ytkgjmajabgpadaa", sum := "35193f99215560ab2bdbf26e3ca002d9702e7475a5aac2d4791f8e51dac5cef8", func := "catenary/catenarylaw04.ProbeParses", spec := "probeParses", unfollowed := true, recurses := true, apart := false, narrowed := true }
def ProbeParsesUptoSaid : Prop := probeParsesUptoRow.holds Try.pinned (OpenSpec.upto probeParsesSpec)

/-- 'catenarylaw04.ProbeBack', WHERE WHAT IT READS IS OF BULK AT MOST 1048576: true; the input reads as it did. -/
def probeBackUptoRow : OpenClaim := { program := "ytkgjmajabgpadaa", sum := "35193f99215560ab2bdbf26e3ca002d9702e7475a5aac2d4791f8e51dac5cef8", func := "catenary/catenarylaw04.ProbeBack", spec := "probeBack", unfollowed := true, recurses := true, apart := false, narrowed := true }
def ProbeBackUptoSaid : Prop := probeBackUptoRow.holds Try.pinned (OpenSpec.upto probeBackSpec)

end Rows
end Go.Proofs.Ytkgjmajabgpadaa
