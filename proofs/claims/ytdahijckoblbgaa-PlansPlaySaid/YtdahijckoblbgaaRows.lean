/-
  No cell of these rows narrows 'for every input' (looked for: loops, veiled, ifaces, maps, wideKeys, modest, calm, conditions, laid).
  DERIVED. THE GIVEN ROWS OF THIS SEAT. 6 by the template 'for every input the law returns true; each argument reads behind the call as it read before'; 0 by the template 'total and deterministic' (their statements: YtdahijckoblbgaaTotals.lean).
  GIVEN WITH THE SEED: the statements are not yours to turn. If you find one false, say at which input.
  Laid BY PROGRAM, IN A SANDBOX (cutbox-rows.mjs): the forced cells as the released guide's own fill.sh prints them over the translation 9e099bd8e2258455… (all of the seat's roots in one cut). By AI agents, Wed Nov 11 2026. No macro, syntax, notation, axiom, sorry.
-/
import Derived.Test.YtdahijckoblbgaaChecked
import GoSem.Claim
import GoSem.ClaimJoined
import GoSem.ClaimMapViews
import Derived.JoinedTies
import Derived.KernelRfl
namespace Go.Proofs.Ytdahijckoblbgaa
/- THE CELL 'sum', in the pinned program and in every row, IS THE sha256 OF THE DUMP (.gsa) THAT YtdahijckoblbgaaProg.lean LOADS. Nothing in Lean hashes anything: it is a label: what it is worth is what the hold of that sum in a sandbox is worth. -/
noncomputable def Try.pinned : Pinned := { name := "ytdahijckoblbgaa", sum := "9e099bd8e2258455a6e8b4a66583375f15e117b972a92e1999ef1d88a74f4c9c", checked := Try.checked }
namespace Rows
def none {H : Type} : Left H := { results := [], args := [] }

/-- 'halyardlaw27.PlansFit': WHATEVER THE INPUT: true; the input reads as it did. -/
def plansFitSpec : ChangeSpec := { name := "plansFit", fn := fun _ => fun
  | [d1, d2, d3] => { results := [.lit (.bool true)], args := [d1, d2, d3] }
  | _ => none }
def plansFitRow : OpenClaim := { program := "ytdahijckoblbgaa", sum := "9e099bd8e2258455a6e8b4a66583375f15e117b972a92e1999ef1d88a74f4c9c", func := "halyard/halyardlaw27.PlansFit", spec := "plansFit", inPlace := ["internal/bytealg.abigen_runtime_cmpstring"], unfollowed := true, recurses := true, apart := false }
def PlansFitSaid : Prop := plansFitRow.holds Try.pinned (OpenSpec.ofChange plansFitSpec)

/-- ITS FALSE NEIGHBOUR: 'it returns false'. Refute it at one input. -/
def plansFitWrong : ChangeSpec := { name := "plansFit", fn := fun _ => fun
  | [d1, d2, d3] => { results := [.lit (.bool false)], args := [d1, d2, d3] }
  | _ => none }
def PlansFitWrongFalsely : Prop := plansFitRow.holds Try.pinned (OpenSpec.ofChange plansFitWrong)

/-- 'halyardlaw27.PlansOrder': WHATEVER THE INPUT: true; the input reads as it did. -/
def plansOrderSpec : ChangeSpec := { name := "plansOrder", fn := fun _ => fun
  | [d1, d2] => { results := [.lit (.bool true)], args := [d1, d2] }
  | _ => none }
def plansOrderRow : OpenClaim := { program := "ytdahijckoblbgaa", sum := "9e099bd8e2258455a6e8b4a66583375f15e117b972a92e1999ef1d88a74f4c9c", func := "halyard/halyardlaw27.PlansOrder", spec := "plansOrder", inPlace := ["internal/bytealg.abigen_runtime_cmpstring"], unfollowed := true, recurses := true, apart := false }
def PlansOrderSaid : Prop := plansOrderRow.holds Try.pinned (OpenSpec.ofChange plansOrderSpec)

/-- ITS FALSE NEIGHBOUR: 'it returns false'. Refute it at one input. -/
def plansOrderWrong : ChangeSpec := { name := "plansOrder", fn := fun _ => fun
  | [d1, d2] => { results := [.lit (.bool false)], args := [d1, d2] }
  | _ => none }
def PlansOrderWrongFalsely : Prop := plansOrderRow.holds Try.pinned (OpenSpec.ofChange plansOrderWrong)

/-- 'halyardlaw27.PlansPlay': WHATEVER THE INPUT: true; the input reads as it did. -/
def plansPlaySpec : ChangeSpec := { name := "plansPlay", fn := fun _ => fun
  | [d1, d2, d3, d4] => { results := [.lit (.bool true)], args := [d1, d2, d3, d4] }
  | _ => none }
def plansPlayRow : OpenClaim := { program := "ytdahijckoblbgaa", sum := "9e099bd8e2258455a6e8b4a66583375f15e117b972a92e1999ef1d88a74f4c9c", func := "halyard/halyardlaw27.PlansPlay", spec := "plansPlay", inPlace := ["internal/bytealg.abigen_runtime_cmpstring", "maps.clone"], unfollowed := true, recurses := true, apart := false }
def PlansPlaySaid : Prop := plansPlayRow.holds Try.pinned (OpenSpec.ofChange plansPlaySpec)

/-- ITS FALSE NEIGHBOUR: 'it returns false'. Refute it at one input. -/
def plansPlayWrong : ChangeSpec := { name := "plansPlay", fn := fun _ => fun
  | [d1, d2, d3, d4] => { results := [.lit (.bool false)], args := [d1, d2, d3, d4] }
  | _ => none }
def PlansPlayWrongFalsely : Prop := plansPlayRow.holds Try.pinned (OpenSpec.ofChange plansPlayWrong)

/-- 'halyardlaw21.WheelOnce': WHATEVER THE INPUT: true; the input reads as it did. -/
def wheelOnceSpec : ChangeSpec := { name := "wheelOnce", fn := fun _ => fun
  | [d] => { results := [.lit (.bool true)], args := [d] }
  | _ => none }
def wheelOnceRow : OpenClaim := { program := "ytdahijckoblbgaa", sum := "9e099bd8e2258455a6e8b4a66583375f15e117b972a92e1999ef1d88a74f4c9c", func := "halyard/halyardlaw21.WheelOnce", spec := "wheelOnce", unfollowed := true, recurses := true, apart := false }
def WheelOnceSaid : Prop := wheelOnceRow.holds Try.pinned (OpenSpec.ofChange wheelOnceSpec)

/-- ITS FALSE NEIGHBOUR: 'it returns false'. Refute it at one input. -/
def wheelOnceWrong : ChangeSpec := { name := "wheelOnce", fn := fun _ => fun
  | [d] => { results := [.lit (.bool false)], args := [d] }
  | _ => none }
def WheelOnceWrongFalsely : Prop := wheelOnceRow.holds Try.pinned (OpenSpec.ofChange wheelOnceWrong)

/-- 'halyardlaw21.WheelSteps': WHATEVER THE INPUT: true; the input reads as it did. -/
def wheelStepsSpec : ChangeSpec := { name := "wheelSteps", fn := fun _ => fun
  | [d1, d2] => { results := [.lit (.bool true)], args := [d1, d2] }
  | _ => none }
def wheelStepsRow : OpenClaim := { program := "ytdahijckoblbgaa", sum := "9e099bd8e2258455a6e8b4a66583375f15e117b972a92e1999ef1d88a74f4c9c", func := "halyard/halyardlaw21.WheelSteps", spec := "wheelSteps", unfollowed := true, recurses := true, apart := false }
def WheelStepsSaid : Prop := wheelStepsRow.holds Try.pinned (OpenSpec.ofChange wheelStepsSpec)

/-- ITS FALSE NEIGHBOUR: 'it returns false'. Refute it at one input. -/
def wheelStepsWrong : ChangeSpec := { name := "wheelSteps", fn := fun _ => fun
  | [d1, d2] => { results := [.lit (.bool false)], args := [d1, d2] }
  | _ => none }
def WheelStepsWrongFalsely : Prop := wheelStepsRow.holds Try.pinned (OpenSpec.ofChange wheelStepsWrong)

/-- 'halyardlaw21.WheelPlays': WHATEVER THE INPUT: true; the input reads as it did. -/
def wheelPlaysSpec : ChangeSpec := { name := "wheelPlays", fn := fun _ => fun
  | [d1, d2] => { results := [.lit (.bool true)], args := [d1, d2] }
  | _ => none }
def wheelPlaysRow : OpenClaim := { program := "ytdahijckoblbgaa", sum := "9e099bd8e2258455a6e8b4a66583375f15e117b972a92e1999ef1d88a74f4c9c", func := "halyard/halyardlaw21.WheelPlays", spec := "wheelPlays", inPlace := ["maps.clone"], unfollowed := true, recurses := true, apart := false }
def WheelPlaysSaid : Prop := wheelPlaysRow.holds Try.pinned (OpenSpec.ofChange wheelPlaysSpec)

/-- ITS FALSE NEIGHBOUR: 'it returns false'. Refute it at one input. -/
def wheelPlaysWrong : ChangeSpec := { name := "wheelPlays", fn := fun _ => fun
  | [d1, d2] => { results := [.lit (.bool false)], args := [d1, d2] }
  | _ => none }
def WheelPlaysWrongFalsely : Prop := wheelPlaysRow.holds Try.pinned (OpenSpec.ofChange wheelPlaysWrong)

/- THE SECOND FORM. 'bulk': how many values and letters a reading holds, each counted each time it is reached (what is shared counts as often as it is met; a slice's spare places count too). A statement '..UptoSaid' is the law's where the arguments, and the package variables that the reading takes, are together of bulk at most 1048576: NARROWER than '..Said'. Prove '..Said' where nothing that the law and all that it calls make is longer than what came in: it says more and counts as full. Else prove '..UptoSaid'. A law counts once. -/
mutual
def uptoBulk {H : Type} : DataW H → Nat
  | .lit (.string bytes) => bytes.length + 1
  | .lit _ => 1
  | .nil => 1
  | .ptr d => uptoBulk d + 1
  | .slice elems spare => uptoBulkAll elems + uptoBulkAll spare + 1
  | .agg parts => uptoBulkAll parts + 1
  | .iface _ d => uptoBulk d + 1
  | .map entries => uptoBulkEntries entries + 1
  | .held _ => 1
def uptoBulkAll {H : Type} : List (DataW H) → Nat
  | [] => 0
  | d :: r => uptoBulk d + uptoBulkAll r
def uptoBulkEntries {H : Type} : List (Lit × DataW H) → Nat
  | [] => 0
  | x :: r => uptoBulkEntry x + uptoBulkEntries r
def uptoBulkEntry {H : Type} : Lit × DataW H → Nat
  | (.string bytes, d) => bytes.length + uptoBulk d + 1
  | (_, d) => uptoBulk d + 1
 end
def uptoSmall : (H : Type) → List (DataW H) → Bool := fun _ ds => decide (uptoBulkAll ds ≤ 1048576)
def OpenSpec.upto (s : _root_.Go.ChangeSpec) : _root_.Go.OpenSpec := { _root_.Go.OpenSpec.ofChange s with cond := some uptoSmall }

/-- 'halyardlaw27.PlansFit', WHERE WHAT IT READS IS OF BULK AT MOST 1048576: true; the input reads as it did. -/
def plansFitUptoRow : OpenClaim := { program := "ytdahijckoblbgaa", sum := "9e099bd8e2258455a6e8b4a66583375f15e117b972a92e1999ef1d88a74f4c9c", func := "halyard/halyardlaw27.PlansFit", spec := "plansFit", inPlace := ["internal/bytealg.abigen_runtime_cmpstring"], unfollowed := true, recurses := true, apart := false, narrowed := true }
def PlansFitUptoSaid : Prop := plansFitUptoRow.holds Try.pinned (OpenSpec.upto plansFitSpec)

/-- 'halyardlaw27.PlansOrder', WHERE WHAT IT READS IS OF BULK AT MOST 1048576: true; the input reads as it did. -/
def plansOrderUptoRow : OpenClaim := { program := "ytdahijckoblbgaa", sum := "9e099bd8e2258455a6e8b4a66583375f15e117b972a92e1999ef1d88a74f4c9c", func := "halyard/halyardlaw27.PlansOrder", spec := "plansOrder", inPlace := ["internal/bytealg.abigen_runtime_cmpstring"], unfollowed := true, recurses := true, apart := false, narrowed := true }
def PlansOrderUptoSaid : Prop := plansOrderUptoRow.holds Try.pinned (OpenSpec.upto plansOrderSpec)

/-- 'halyardlaw27.PlansPlay', WHERE WHAT IT READS IS OF BULK AT MOST 1048576: true; the input reads as it did. -/
def plansPlayUptoRow : OpenClaim := { program := "ytdahijckoblbgaa", sum := "9e099bd8e2258455a6e8b4a66583375f15e117b972a92e1999ef1d88a74f4c9c", func := "halyard/halyardlaw27.PlansPlay", spec := "plansPlay", inPlace := ["internal/bytealg.abigen_runtime_cmpstring", "maps.clone"], unfollowed := true, recurses := true, apart := false, narrowed := true }
def PlansPlayUptoSaid : Prop := plansPlayUptoRow.holds Try.pinned (OpenSpec.upto plansPlaySpec)

/-- 'halyardlaw21.WheelOnce', WHERE WHAT IT READS IS OF BULK AT MOST 1048576: true; the input reads as it did. -/
def wheelOnceUptoRow : OpenClaim := { program := "ytdahijckoblbgaa", sum := "9e099bd8e2258455a6e8b4a66583375f15e117b972a92e1999ef1d88a74f4c9c", func := "halyard/halyardlaw21.WheelOnce", spec := "wheelOnce", unfollowed := true, recurses := true, apart := false, narrowed := true }
def WheelOnceUptoSaid : Prop := wheelOnceUptoRow.holds Try.pinned (OpenSpec.upto wheelOnceSpec)

/-- 'halyardlaw21.WheelSteps', WHERE WHAT IT READS IS OF BULK AT MOST 1048576: true; the input reads as it did. -/
def wheelStepsUptoRow : OpenClaim := { program := "ytdahijckoblbgaa", sum := "9e099bd8e2258455a6e8b4a66583375f15e117b972a92e1999ef1d88a74f4c9c", func := "halyard/halyardlaw21.WheelSteps", spec := "wheelSteps", unfollowed := true, recurses := true, apart := false, narrowed := true }
def WheelStepsUptoSaid : Prop := wheelStepsUptoRow.holds Try.pinned (OpenSpec.upto wheelStepsSpec)

/-- 'halyardlaw21.WheelPlays', WHERE WHAT IT READS IS OF BULK AT MOST 1048576: true; the input reads as it did. -/
def wheelPlaysUptoRow : OpenClaim := { program := "ytdahijckoblbgaa", sum := "9e099bd8e2258455a6e8b4a66583375f15e117b972a92e1999ef1d88a74f4c9c", func := "halyard/halyardlaw21.WheelPlays", spec := "wheelPlays", inPlace := ["maps.clone"], unfollowed := true, recurses := true, apart := false, narrowed := true }
def WheelPlaysUptoSaid : Prop := wheelPlaysUptoRow.holds Try.pinned (OpenSpec.upto wheelPlaysSpec)

end Rows
end Go.Proofs.Ytdahijckoblbgaa
