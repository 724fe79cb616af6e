/-
  No cell of these rows narrows 'for every input' (looked for: loops, veiled, ifaces, maps, wideKeys, modest, calm, conditions, laid).
  DERIVED. THE GIVEN ROWS OF THIS SEAT. 13 by the template 'for every input the law returns true; each argument reads behind the call as it read before'; 0 by the template 'total and deterministic' (their statements: YtdlpoemjgeehgaaTotals.lean).
  GIVEN WITH THE SEED: the statements are not yours to turn. If you find one false, say at which input.
  Laid BY PROGRAM, IN A SANDBOX (cutbox-rows.mjs): the forced cells as the released guide's own fill.sh prints them over the translation bc82ab73ca279dcc… (all of the seat's roots in one cut). By AI agents, Wed Nov 11 2026. No macro, syntax, notation, axiom, sorry.
-/
import Derived.Test.YtdlpoemjgeehgaaChecked
import GoSem.Claim
import GoSem.ClaimJoined
import GoSem.ClaimMapViews
import Derived.JoinedTies
import Derived.KernelRfl
namespace Go.Proofs.Ytdlpoemjgeehgaa
/- THE CELL 'sum', in the pinned program and in every row, IS THE sha256 OF THE DUMP (.gsa) THAT YtdlpoemjgeehgaaProg.lean LOADS. Nothing in Lean hashes anything: it is a label: what it is worth is what the hold of that sum in a sandbox is worth. -/
noncomputable def Try.pinned : Pinned := { name := "ytdlpoemjgeehgaa", sum := "bc82ab73ca279dcc3b0202d00c415ba0eff10a84b4cf76f40bb1dbc4558902b4", checked := Try.checked }
namespace Rows
def none {H : Type} : Left H := { results := [], args := [] }

/-- 'halyardlaw18.PapApart': WHATEVER THE INPUT: true; the input reads as it did. -/
def papApartSpec : ChangeSpec := { name := "papApart", fn := fun _ => fun
  | [d1, d2, d3, d4, d5] => { results := [.lit (.bool true)], args := [d1, d2, d3, d4, d5] }
  | _ => none }
def papApartRow : OpenClaim := { program := "ytdlpoemjgeehgaa", sum := "bc82ab73ca279dcc3b0202d00c415ba0eff10a84b4cf76f40bb1dbc4558902b4", func := "halyard/halyardlaw18.PapApart", spec := "papApart", inPlace := ["internal/abi.NoEscape"], unfollowed := true, recurses := true, apart := false }
def PapApartSaid : Prop := papApartRow.holds Try.pinned (OpenSpec.ofChange papApartSpec)

/-- ITS FALSE NEIGHBOUR: 'it returns false'. Refute it at one input. -/
def papApartWrong : ChangeSpec := { name := "papApart", fn := fun _ => fun
  | [d1, d2, d3, d4, d5] => { results := [.lit (.bool false)], args := [d1, d2, d3, d4, d5] }
  | _ => none }
def PapApartWrongFalsely : Prop := papApartRow.holds Try.pinned (OpenSpec.ofChange papApartWrong)

/-- 'halyardlaw18.PapTells': WHATEVER THE INPUT: true; the input reads as it did. -/
def papTellsSpec : ChangeSpec := { name := "papTells", fn := fun _ => fun
  | [d1, d2, d3, d4, d5] => { results := [.lit (.bool true)], args := [d1, d2, d3, d4, d5] }
  | _ => none }
def papTellsRow : OpenClaim := { program := "ytdlpoemjgeehgaa", sum := "bc82ab73ca279dcc3b0202d00c415ba0eff10a84b4cf76f40bb1dbc4558902b4", func := "halyard/halyardlaw18.PapTells", spec := "papTells", inPlace := ["internal/abi.NoEscape"], unfollowed := true, recurses := true, apart := false }
def PapTellsSaid : Prop := papTellsRow.holds Try.pinned (OpenSpec.ofChange papTellsSpec)

/-- ITS FALSE NEIGHBOUR: 'it returns false'. Refute it at one input. -/
def papTellsWrong : ChangeSpec := { name := "papTells", fn := fun _ => fun
  | [d1, d2, d3, d4, d5] => { results := [.lit (.bool false)], args := [d1, d2, d3, d4, d5] }
  | _ => none }
def PapTellsWrongFalsely : Prop := papTellsRow.holds Try.pinned (OpenSpec.ofChange papTellsWrong)

/-- 'halyardlaw18.PapBack': WHATEVER THE INPUT: true; the input reads as it did. -/
def papBackSpec : ChangeSpec := { name := "papBack", fn := fun _ => fun
  | [d1, d2, d3, d4, d5] => { results := [.lit (.bool true)], args := [d1, d2, d3, d4, d5] }
  | _ => none }
def papBackRow : OpenClaim := { program := "ytdlpoemjgeehgaa", sum := "bc82ab73ca279dcc3b0202d00c415ba0eff10a84b4cf76f40bb1dbc4558902b4", func := "halyard/halyardlaw18.PapBack", spec := "papBack", inPlace := ["internal/abi.NoEscape"], unfollowed := true, recurses := true, apart := false }
def PapBackSaid : Prop := papBackRow.holds Try.pinned (OpenSpec.ofChange papBackSpec)

/-- ITS FALSE NEIGHBOUR: 'it returns false'. Refute it at one input. -/
def papBackWrong : ChangeSpec := { name := "papBack", fn := fun _ => fun
  | [d1, d2, d3, d4, d5] => { results := [.lit (.bool false)], args := [d1, d2, d3, d4, d5] }
  | _ => none }
def PapBackWrongFalsely : Prop := papBackRow.holds Try.pinned (OpenSpec.ofChange papBackWrong)

/-- 'halyardlaw06.FieldTells': WHATEVER THE INPUT: true; the input reads as it did. -/
def fieldTellsSpec : ChangeSpec := { name := "fieldTells", fn := fun _ => fun
  | [d1, d2, d3, d4] => { results := [.lit (.bool true)], args := [d1, d2, d3, d4] }
  | _ => none }
def fieldTellsRow : OpenClaim := { program := "ytdlpoemjgeehgaa", sum := "bc82ab73ca279dcc3b0202d00c415ba0eff10a84b4cf76f40bb1dbc4558902b4", func := "halyard/halyardlaw06.FieldTells", spec := "fieldTells", inPlace := ["internal/abi.NoEscape", "internal/bytealg.MakeNoZero"], unfollowed := true, recurses := true, apart := false }
def FieldTellsSaid : Prop := fieldTellsRow.holds Try.pinned (OpenSpec.ofChange fieldTellsSpec)

/-- ITS FALSE NEIGHBOUR: 'it returns false'. Refute it at one input. -/
def fieldTellsWrong : ChangeSpec := { name := "fieldTells", fn := fun _ => fun
  | [d1, d2, d3, d4] => { results := [.lit (.bool false)], args := [d1, d2, d3, d4] }
  | _ => none }
def FieldTellsWrongFalsely : Prop := fieldTellsRow.holds Try.pinned (OpenSpec.ofChange fieldTellsWrong)

/-- 'halyardlaw06.FieldBack': WHATEVER THE INPUT: true; the input reads as it did. -/
def fieldBackSpec : ChangeSpec := { name := "fieldBack", fn := fun _ => fun
  | [d1, d2, d3, d4] => { results := [.lit (.bool true)], args := [d1, d2, d3, d4] }
  | _ => none }
def fieldBackRow : OpenClaim := { program := "ytdlpoemjgeehgaa", sum := "bc82ab73ca279dcc3b0202d00c415ba0eff10a84b4cf76f40bb1dbc4558902b4", func := "halyard/halyardlaw06.FieldBack", spec := "fieldBack", inPlace := ["internal/abi.NoEscape", "internal/bytealg.MakeNoZero"], unfollowed := true, recurses := true, apart := false }
def FieldBackSaid : Prop := fieldBackRow.holds Try.pinned (OpenSpec.ofChange fieldBackSpec)

/-- ITS FALSE NEIGHBOUR: 'it returns false'. Refute it at one input. -/
def fieldBackWrong : ChangeSpec := { name := "fieldBack", fn := fun _ => fun
  | [d1, d2, d3, d4] => { results := [.lit (.bool false)], args := [d1, d2, d3, d4] }
  | _ => none }
def FieldBackWrongFalsely : Prop := fieldBackRow.holds Try.pinned (OpenSpec.ofChange fieldBackWrong)

/-- 'halyardlaw06.FieldShort': WHATEVER THE INPUT: true; the input reads as it did. -/
def fieldShortSpec : ChangeSpec := { name := "fieldShort", fn := fun _ => fun
  | [d1, d2] => { results := [.lit (.bool true)], args := [d1, d2] }
  | _ => none }
def fieldShortRow : OpenClaim := { program := "ytdlpoemjgeehgaa", sum := "bc82ab73ca279dcc3b0202d00c415ba0eff10a84b4cf76f40bb1dbc4558902b4", func := "halyard/halyardlaw06.FieldShort", spec := "fieldShort", inPlace := ["internal/abi.NoEscape", "internal/bytealg.MakeNoZero"], unfollowed := true, recurses := true, apart := false }
def FieldShortSaid : Prop := fieldShortRow.holds Try.pinned (OpenSpec.ofChange fieldShortSpec)

/-- ITS FALSE NEIGHBOUR: 'it returns false'. Refute it at one input. -/
def fieldShortWrong : ChangeSpec := { name := "fieldShort", fn := fun _ => fun
  | [d1, d2] => { results := [.lit (.bool false)], args := [d1, d2] }
  | _ => none }
def FieldShortWrongFalsely : Prop := fieldShortRow.holds Try.pinned (OpenSpec.ofChange fieldShortWrong)

/-- 'halyardlaw06.FieldEnds': WHATEVER THE INPUT: true; the input reads as it did. -/
def fieldEndsSpec : ChangeSpec := { name := "fieldEnds", fn := fun _ => fun
  | [d1, d2, d3, d4, d5] => { results := [.lit (.bool true)], args := [d1, d2, d3, d4, d5] }
  | _ => none }
def fieldEndsRow : OpenClaim := { program := "ytdlpoemjgeehgaa", sum := "bc82ab73ca279dcc3b0202d00c415ba0eff10a84b4cf76f40bb1dbc4558902b4", func := "halyard/halyardlaw06.FieldEnds", spec := "fieldEnds", inPlace := ["internal/abi.NoEscape", "internal/bytealg.MakeNoZero"], unfollowed := true, recurses := true, apart := false }
def FieldEndsSaid : Prop := fieldEndsRow.holds Try.pinned (OpenSpec.ofChange fieldEndsSpec)

/-- ITS FALSE NEIGHBOUR: 'it returns false'. Refute it at one input. -/
def fieldEndsWrong : ChangeSpec := { name := "fieldEnds", fn := fun _ => fun
  | [d1, d2, d3, d4, d5] => { results := [.lit (.bool false)], args := [d1, d2, d3, d4, d5] }
  | _ => none }
def FieldEndsWrongFalsely : Prop := fieldEndsRow.holds Try.pinned (OpenSpec.ofChange fieldEndsWrong)

/-- 'halyardlaw11.RejectFits': WHATEVER THE INPUT: true; the input reads as it did. -/
def rejectFitsSpec : ChangeSpec := { name := "rejectFits", fn := fun _ => fun
  | [d1, d2, d3, d4, d5] => { results := [.lit (.bool true)], args := [d1, d2, d3, d4, d5] }
  | _ => none }
def rejectFitsRow : OpenClaim := { program := "ytdlpoemjgeehgaa", sum := "bc82ab73ca279dcc3b0202d00c415ba0eff10a84b4cf76f40bb1dbc4558902b4", func := "halyard/halyardlaw11.RejectFits", spec := "rejectFits", inPlace := ["internal/abi.NoEscape", "internal/bytealg.MakeNoZero"], unfollowed := true, recurses := true, apart := false }
def RejectFitsSaid : Prop := rejectFitsRow.holds Try.pinned (OpenSpec.ofChange rejectFitsSpec)

/-- ITS FALSE NEIGHBOUR: 'it returns false'. Refute it at one input. -/
def rejectFitsWrong : ChangeSpec := { name := "rejectFits", fn := fun _ => fun
  | [d1, d2, d3, d4, d5] => { results := [.lit (.bool false)], args := [d1, d2, d3, d4, d5] }
  | _ => none }
def RejectFitsWrongFalsely : Prop := rejectFitsRow.holds Try.pinned (OpenSpec.ofChange rejectFitsWrong)

/-- 'halyardlaw11.RejectSays': WHATEVER THE INPUT: true; the input reads as it did. -/
def rejectSaysSpec : ChangeSpec := { name := "rejectSays", fn := fun _ => fun
  | [d1, d2, d3, d4, d5] => { results := [.lit (.bool true)], args := [d1, d2, d3, d4, d5] }
  | _ => none }
def rejectSaysRow : OpenClaim := { program := "ytdlpoemjgeehgaa", sum := "bc82ab73ca279dcc3b0202d00c415ba0eff10a84b4cf76f40bb1dbc4558902b4", func := "halyard/halyardlaw11.RejectSays", spec := "rejectSays", inPlace := ["internal/abi.NoEscape", "internal/bytealg.MakeNoZero"], unfollowed := true, recurses := true, apart := false }
def RejectSaysSaid : Prop := rejectSaysRow.holds Try.pinned (OpenSpec.ofChange rejectSaysSpec)

/-- ITS FALSE NEIGHBOUR: 'it returns false'. Refute it at one input. -/
def rejectSaysWrong : ChangeSpec := { name := "rejectSays", fn := fun _ => fun
  | [d1, d2, d3, d4, d5] => { results := [.lit (.bool false)], args := [d1, d2, d3, d4, d5] }
  | _ => none }
def RejectSaysWrongFalsely : Prop := rejectSaysRow.holds Try.pinned (OpenSpec.ofChange rejectSaysWrong)

/-- 'halyardlaw11.RejectTells': WHATEVER THE INPUT: true; the input reads as it did. -/
def rejectTellsSpec : ChangeSpec := { name := "rejectTells", fn := fun _ => fun
  | [d1, d2, d3, d4, d5, d6] => { results := [.lit (.bool true)], args := [d1, d2, d3, d4, d5, d6] }
  | _ => none }
def rejectTellsRow : OpenClaim := { program := "ytdlpoemjgeehgaa", sum := "bc82ab73ca279dcc3b0202d00c415ba0eff10a84b4cf76f40bb1dbc4558902b4", func := "halyard/halyardlaw11.RejectTells", spec := "rejectTells", inPlace := ["internal/abi.NoEscape", "internal/bytealg.MakeNoZero"], unfollowed := true, recurses := true, apart := false }
def RejectTellsSaid : Prop := rejectTellsRow.holds Try.pinned (OpenSpec.ofChange rejectTellsSpec)

/-- ITS FALSE NEIGHBOUR: 'it returns false'. Refute it at one input. -/
def rejectTellsWrong : ChangeSpec := { name := "rejectTells", fn := fun _ => fun
  | [d1, d2, d3, d4, d5, d6] => { results := [.lit (.bool false)], args := [d1, d2, d3, d4, d5, d6] }
  | _ => none }
def RejectTellsWrongFalsely : Prop := rejectTellsRow.holds Try.pinned (OpenSpec.ofChange rejectTellsWrong)

/-- 'halyardlaw28.RecordBytes': WHATEVER THE INPUT: true; the input reads as it did. -/
def recordBytesSpec : ChangeSpec := { name := "recordBytes", fn := fun _ => fun
  | [d1, d2, d3] => { results := [.lit (.bool true)], args := [d1, d2, d3] }
  | _ => none }
def recordBytesRow : OpenClaim := { program := "ytdlpoemjgeehgaa", sum := "bc82ab73ca279dcc3b0202d00c415ba0eff10a84b4cf76f40bb1dbc4558902b4", func := "halyard/halyardlaw28.RecordBytes", spec := "recordBytes", inPlace := ["internal/abi.NoEscape"], apart := false }
def RecordBytesSaid : Prop := recordBytesRow.holds Try.pinned (OpenSpec.ofChange recordBytesSpec)

/-- ITS FALSE NEIGHBOUR: 'it returns false'. Refute it at one input. -/
def recordBytesWrong : ChangeSpec := { name := "recordBytes", fn := fun _ => fun
  | [d1, d2, d3] => { results := [.lit (.bool false)], args := [d1, d2, d3] }
  | _ => none }
def RecordBytesWrongFalsely : Prop := recordBytesRow.holds Try.pinned (OpenSpec.ofChange recordBytesWrong)

/-- 'halyardlaw28.RecordBoth': WHATEVER THE INPUT: true; the input reads as it did. -/
def recordBothSpec : ChangeSpec := { name := "recordBoth", fn := fun _ => fun
  | [d1, d2] => { results := [.lit (.bool true)], args := [d1, d2] }
  | _ => none }
def recordBothRow : OpenClaim := { program := "ytdlpoemjgeehgaa", sum := "bc82ab73ca279dcc3b0202d00c415ba0eff10a84b4cf76f40bb1dbc4558902b4", func := "halyard/halyardlaw28.RecordBoth", spec := "recordBoth", inPlace := ["internal/abi.NoEscape", "internal/bytealg.abigen_runtime_cmpstring"], unfollowed := true, recurses := true, apart := false }
def RecordBothSaid : Prop := recordBothRow.holds Try.pinned (OpenSpec.ofChange recordBothSpec)

/-- ITS FALSE NEIGHBOUR: 'it returns false'. Refute it at one input. -/
def recordBothWrong : ChangeSpec := { name := "recordBoth", fn := fun _ => fun
  | [d1, d2] => { results := [.lit (.bool false)], args := [d1, d2] }
  | _ => none }
def RecordBothWrongFalsely : Prop := recordBothRow.holds Try.pinned (OpenSpec.ofChange recordBothWrong)

/-- 'halyardlaw28.RecordPlays': WHATEVER THE INPUT: true; the input reads as it did. -/
def recordPlaysSpec : ChangeSpec := { name := "recordPlays", fn := fun _ => fun
  | [d1, d2, d3, d4] => { results := [.lit (.bool true)], args := [d1, d2, d3, d4] }
  | _ => none }
def recordPlaysRow : OpenClaim := { program := "ytdlpoemjgeehgaa", sum := "bc82ab73ca279dcc3b0202d00c415ba0eff10a84b4cf76f40bb1dbc4558902b4", func := "halyard/halyardlaw28.RecordPlays", spec := "recordPlays", inPlace := ["internal/abi.NoEscape", "internal/bytealg.abigen_runtime_cmpstring", "maps.clone"], unfollowed := true, recurses := true, apart := false }
def RecordPlaysSaid : Prop := recordPlaysRow.holds Try.pinned (OpenSpec.ofChange recordPlaysSpec)

/-- ITS FALSE NEIGHBOUR: 'it returns false'. Refute it at one input. -/
def recordPlaysWrong : ChangeSpec := { name := "recordPlays", fn := fun _ => fun
  | [d1, d2, d3, d4] => { results := [.lit (.bool false)], args := [d1, d2, d3, d4] }
  | _ => none }
def RecordPlaysWrongFalsely : Prop := recordPlaysRow.holds Try.pinned (OpenSpec.ofChange recordPlaysWrong)

/- THE SECOND FORM. 'bulk': how many values and letters a reading holds, each counted each time it is reached (what is shared counts as often as it is met; a slice's spare places count too). A statement '..UptoSaid' is the law's where the arguments, and the package variables that the reading takes, are together of bulk at most 1048576: NARROWER than '..Said'. Prove '..Said' where nothing that the law and all that it calls make is longer than what came in: it says more and counts as full. Else prove '..UptoSaid'. A law counts once. -/
mutual
def uptoBulk {H : Type} : DataW H → Nat
  | .lit (.string bytes) => bytes.length + 1
  | .lit _ => 1
  | .nil => 1
  | .ptr d => uptoBulk d + 1
  | .slice elems spare => uptoBulkAll elems + uptoBulkAll spare + 1
  | .agg parts => uptoBulkAll parts + 1
  | .iface _ d => uptoBulk d + 1
  | .map entries => uptoBulkEntries entries + 1
  | .held _ => 1
def uptoBulkAll {H : Type} : List (DataW H) → Nat
  | [] => 0
  | d :: r => uptoBulk d + uptoBulkAll r
def uptoBulkEntries {H : Type} : List (Lit × DataW H) → Nat
  | [] => 0
  | x :: r => uptoBulkEntry x + uptoBulkEntries r
def uptoBulkEntry {H : Type} : Lit × DataW H → Nat
  | (.string bytes, d) => bytes.length + uptoBulk d + 1
  | (_, d) => uptoBulk d + 1
 end
def uptoSmall : (H : Type) → List (DataW H) → Bool := fun _ ds => decide (uptoBulkAll ds ≤ 1048576)
def OpenSpec.upto (s : _root_.Go.ChangeSpec) : _root_.Go.OpenSpec := { _root_.Go.OpenSpec.ofChange s with cond := some uptoSmall }

/-- 'halyardlaw18.PapApart', WHERE WHAT IT READS IS OF BULK AT MOST 1048576: true; the input reads as it did. -/
def papApartUptoRow : OpenClaim := { program := "ytdlpoemjgeehgaa", sum := "bc82ab73ca279dcc3b0202d00c415ba0eff10a84b4cf76f40bb1dbc4558902b4", func := "halyard/halyardlaw18.PapApart", spec := "papApart", inPlace := ["internal/abi.NoEscape"], unfollowed := true, recurses := true, apart := false, narrowed := true }
def PapApartUptoSaid : Prop := papApartUptoRow.holds Try.pinned (OpenSpec.upto papApartSpec)

/-- 'halyardlaw18.PapTells', WHERE WHAT IT READS IS OF BULK AT MOST 1048576: true; the input reads as it did. -/
def papTellsUptoRow : OpenClaim := { program := "ytdlpoemjgeehgaa", sum := "bc82ab73ca279dcc3b0202d00c415ba0eff10a84b4cf76f40bb1dbc4558902b4", func := "halyard/halyardlaw18.PapTells", spec := "papTells", inPlace := ["internal/abi.NoEscape"], unfollowed := true, recurses := true, apart := false, narrowed := true }
def PapTellsUptoSaid : Prop := papTellsUptoRow.holds Try.pinned (OpenSpec.upto papTellsSpec)

/-- 'halyardlaw18.PapBack', WHERE WHAT IT READS IS OF BULK AT MOST 1048576: true; the input reads as it did. -/
def papBackUptoRow : OpenClaim := { program := "ytdlpoemjgeehgaa", sum := "bc82ab73ca279dcc3b0202d00c415ba0eff10a84b4cf76f40bb1dbc4558902b4", func := "halyard/halyardlaw18.PapBack", spec := "papBack", inPlace := ["internal/abi.NoEscape"], unfollowed := true, recurses := true, apart := false, narrowed := true }
def PapBackUptoSaid : Prop := papBackUptoRow.holds Try.pinned (OpenSpec.upto papBackSpec)

/-- 'halyardlaw06.FieldTells', WHERE WHAT IT READS IS OF BULK AT MOST 1048576: true; the input reads as it did. -/
def fieldTellsUptoRow : OpenClaim := { program := "ytdlpoemjgeehgaa", sum := "bc82ab73ca279dcc3b0202d00c415ba0eff10a84b4cf76f40bb1dbc4558902b4", func := "halyard/halyardlaw06.FieldTells", spec := "fieldTells", inPlace := ["internal/abi.NoEscape", "internal/bytealg.MakeNoZero"], unfollowed := true, recurses := true, apart := false, narrowed := true }
def FieldTellsUptoSaid : Prop := fieldTellsUptoRow.holds Try.pinned (OpenSpec.upto fieldTellsSpec)

/-- 'halyardlaw06.FieldBack', WHERE WHAT IT READS IS OF BULK AT MOST 1048576: true; the input reads as it did. -/
def fieldBackUptoRow : OpenClaim := { program := "ytdlpoemjgeehgaa", sum := "bc82ab73ca279dcc3b0202d00c415ba0eff10a84b4cf76f40bb1dbc4558902b4", func := "halyard/halyardlaw06.FieldBack", spec := "fieldBack", inPlace := ["internal/abi.NoEscape", "internal/bytealg.MakeNoZero"], unfollowed := true, recurses := true, apart := false, narrowed := true }
def FieldBackUptoSaid : Prop := fieldBackUptoRow.holds Try.pinned (OpenSpec.upto fieldBackSpec)

/-- 'halyardlaw06.FieldShort', WHERE WHAT IT READS IS OF BULK AT MOST 1048576: true; the input reads as it did. -/
def fieldShortUptoRow : OpenClaim := { program := "ytdlpoemjgeehgaa", sum := "bc82ab73ca279dcc3b0202d00c415ba0eff10a84b4cf76f40bb1dbc4558902b4", func := "halyard/halyardlaw06.FieldShort", spec := "fieldShort", inPlace := ["internal/abi.NoEscape", "internal/bytealg.MakeNoZero"], unfollowed := true, recurses := true, apart := false, narrowed := true }
def FieldShortUptoSaid : Prop := fieldShortUptoRow.holds Try.pinned (OpenSpec.upto fieldShortSpec)

/-- 'halyardlaw06.FieldEnds', WHERE WHAT IT READS IS OF BULK AT MOST 1048576: true; the input reads as it did. -/
def fieldEndsUptoRow : OpenClaim := { program := "ytdlpoemjgeehgaa", sum := "bc82ab73ca279dcc3b0202d00c415ba0eff10a84b4cf76f40bb1dbc4558902b4", func := "halyard/halyardlaw06.FieldEnds", spec := "fieldEnds", inPlace := ["internal/abi.NoEscape", "internal/bytealg.MakeNoZero"], unfollowed := true, recurses := true, apart := false, narrowed := true }
def FieldEndsUptoSaid : Prop := fieldEndsUptoRow.holds Try.pinned (OpenSpec.upto fieldEndsSpec)

/-- 'halyardlaw11.RejectFits', WHERE WHAT IT READS IS OF BULK AT MOST 1048576: true; the input reads as it did. -/
def rejectFitsUptoRow : OpenClaim := { program := "ytdlpoemjgeehgaa", sum := "bc82ab73ca279dcc3b0202d00c415ba0eff10a84b4cf76f40bb1dbc4558902b4", func := "halyard/halyardlaw11.RejectFits", spec := "rejectFits", inPlace := ["internal/abi.NoEscape", "internal/bytealg.MakeNoZero"], unfollowed := true, recurses := true, apart := false, narrowed := true }
def RejectFitsUptoSaid : Prop := rejectFitsUptoRow.holds Try.pinned (OpenSpec.upto rejectFitsSpec)

/-- 'halyardlaw11.RejectSays', WHERE WHAT IT READS IS OF BULK AT MOST 1048576: true; the input reads as it did. -/
def rejectSaysUptoRow : OpenClaim := { program := "ytdlpoemjgeehgaa", sum := "bc82ab73ca279dcc3b0202d00c415ba0eff10a84b4cf76f40bb1dbc4558902b4", func := "halyard/halyardlaw11.RejectSays", spec := "rejectSays", inPlace := ["internal/abi.NoEscape", "internal/bytealg.MakeNoZero"], unfollowed := true, recurses := true, apart := false, narrowed := true }
def RejectSaysUptoSaid : Prop := rejectSaysUptoRow.holds Try.pinned (OpenSpec.upto rejectSaysSpec)

/-- 'halyardlaw11.RejectTells', WHERE WHAT IT READS IS OF BULK AT MOST 1048576: true; the input reads as it did. -/
def rejectTellsUptoRow : OpenClaim := { program := "ytdlpoemjgeehgaa", sum := "bc82ab73ca279dcc3b0202d00c415ba0eff10a84b4cf76f40bb1dbc4558902b4", func := "halyard/halyardlaw11.RejectTells", spec := "rejectTells", inPlace := ["internal/abi.NoEscape", "internal/bytealg.MakeNoZero"], unfollowed := true, recurses := true, apart := false, narrowed := true }
def RejectTellsUptoSaid : Prop := rejectTellsUptoRow.holds Try.pinned (OpenSpec.upto rejectTellsSpec)

/-- 'halyardlaw28.RecordBytes', WHERE WHAT IT READS IS OF BULK AT MOST 1048576: true; the input reads as it did. -/
def recordBytesUptoRow : OpenClaim := { program := "ytdlpoemjgeehgaa", sum := "bc82ab73ca279dcc3b0202d00c415ba0eff10a84b4cf76f40bb1dbc4558902b4", func := "halyard/halyardlaw28.RecordBytes", spec := "recordBytes", inPlace := ["internal/abi.NoEscape"], apart := false, narrowed := true }
def RecordBytesUptoSaid : Prop := recordBytesUptoRow.holds Try.pinned (OpenSpec.upto recordBytesSpec)

/-- 'halyardlaw28.RecordBoth', WHERE WHAT IT READS IS OF BULK AT MOST 1048576: true; the input reads as it did. -/
def recordBothUptoRow : OpenClaim := { program := "ytdlpoemjgeehgaa", sum := "bc82ab73ca279dcc3b0202d00c415ba0eff10a84b4cf76f40bb1dbc4558902b4", func := "halyard/halyardlaw28.RecordBoth", spec := "recordBoth", inPlace := ["internal/abi.NoEscape", "internal/bytealg.abigen_runtime_cmpstring"], unfollowed := true, recurses := true, apart := false, narrowed := true }
def RecordBothUptoSaid : Prop := recordBothUptoRow.holds Try.pinned (OpenSpec.upto recordBothSpec)

/-- 'halyardlaw28.RecordPlays', WHERE WHAT IT READS IS OF BULK AT MOST 1048576: true; the input reads as it did. -/
def recordPlaysUptoRow : OpenClaim := { program := "ytdlpoemjgeehgaa", sum := "bc82ab73ca279dcc3b0202d00c415ba0eff10a84b4cf76f40bb1dbc4558902b4", func := "halyard/halyardlaw28.RecordPlays", spec := "recordPlays", inPlace := ["internal/abi.NoEscape", "internal/bytealg.abigen_runtime_cmpstring", "maps.clone"], unfollowed := true, recurses := true, apart := false, narrowed := true }
def RecordPlaysUptoSaid : Prop := recordPlaysUptoRow.holds Try.pinned (OpenSpec.upto recordPlaysSpec)

end Rows
end Go.Proofs.Ytdlpoemjgeehgaa
