/- The law halyard/halyardlaw27.PlansPlay: for every input it answers true, and each argument reads as it read; no condition. -/
import Derived.Test.YtdahijckoblbgaaHO
import Derived.Test.YtdahijckoblbgaaRows
import Derived.Test.YtdahijckoblbgaaWalkPlansPlay
import Derived.WalkKit
import Derived.ProofKit
import Derived.OpenShut
import Derived.ShutString
import Derived.ChangeOld
import Derived.Below
import Derived.SizedLaws
import Derived.Lib.SmallJoins
namespace Go.Proofs.Ytdahijckoblbgaa.plansPlay
open Go.ChangeShapes Go.WideShapes Go.ChangeAt Go.RowKit Go.Joins Go.Proofs.YtdahijckoblbgaaHO Go.Proofs.YtdahijckoblbgaaW.PrintWords Go.Proofs.Ytdahijckoblbgaa.PG27
open Go.ChangeMaps (open_string shut_string)
set_option linter.unusedVariables false
theorem op9 : Opens Try.prog 9 Kd.string (fun s : ByteArray => s.size ≤ 140737488351232) := opens_string Try.underlying9 (by kernel_rfl)
theorem op2 : Opens Try.prog 2 (Kd.int .i64) (fun n : Int => (Lit.int .i64 n).wf = true) := opens_int Try.underlying2 (by kernel_rfl)
set_option maxRecDepth 100000 in
theorem op30 : Opens Try.prog 30 k30 (fun x : S30 => (fun s : ByteArray => s.size ≤ 140737488351232) x.f0 ∧ ((fun n : Int => (Lit.int .i64 n).wf = true) x.f1)) := opens_struct (d := (Kd.pair Kd.string (Kd.int .i64))) (I := (fun x_ : (ByteArray × Int) => (fun s : ByteArray => s.size ≤ 140737488351232) x_.1 ∧ (fun n : Int => (Lit.int .i64 n).wf = true) x_.2)) (fun x : S30 => (x.f0, x.f1)) (fun y => ⟨y.1, y.2⟩) (fun _ => rfl) Try.underlying30 (by kernel_rfl) (opensFs_cons (d := Kd.string) (d' := (Kd.int .i64)) (I := (fun s : ByteArray => s.size ≤ 140737488351232)) (I' := (fun n : Int => (Lit.int .i64 n).wf = true)) (by rfl) op9 (opensFs_one (d := (Kd.int .i64)) (I := (fun n : Int => (Lit.int .i64 n).wf = true)) (by rfl) op2))
theorem op22 : Opens Try.prog 22 (Kd.slice 30 k30) (fun xs => xs.length ≤ maxLen ∧ xs.length * Try.prog.bytesOf 30 ≤ 140737488351232 ∧ ∀ x ∈ xs, (fun x : S30 => (fun s : ByteArray => s.size ≤ 140737488351232) x.f0 ∧ ((fun n : Int => (Lit.int .i64 n).wf = true) x.f1)) x) := opens_slice Try.underlying22 (by kernel_rfl) op30
theorem op3 : Opens Try.prog 3 (Kd.int .i64) (fun n : Int => (Lit.int .i64 n).wf = true) := opens_int Try.underlying3 (by kernel_rfl)
set_option maxRecDepth 100000 in
theorem op47 : Opens Try.prog 47 k47 (fun x : S47 => (fun n : Int => (Lit.int .i64 n).wf = true) x.f0 ∧ ((fun x : S30 => (fun s : ByteArray => s.size ≤ 140737488351232) x.f0 ∧ ((fun n : Int => (Lit.int .i64 n).wf = true) x.f1)) x.f1)) := opens_struct (d := (Kd.pair (Kd.int .i64) k30)) (I := (fun x_ : (Int × S30) => (fun n : Int => (Lit.int .i64 n).wf = true) x_.1 ∧ (fun x : S30 => (fun s : ByteArray => s.size ≤ 140737488351232) x.f0 ∧ ((fun n : Int => (Lit.int .i64 n).wf = true) x.f1)) x_.2)) (fun x : S47 => (x.f0, x.f1)) (fun y => ⟨y.1, y.2⟩) (fun _ => rfl) Try.underlying47 (by kernel_rfl) (opensFs_cons (d := (Kd.int .i64)) (d' := k30) (I := (fun n : Int => (Lit.int .i64 n).wf = true)) (I' := (fun x : S30 => (fun s : ByteArray => s.size ≤ 140737488351232) x.f0 ∧ ((fun n : Int => (Lit.int .i64 n).wf = true) x.f1))) (by rfl) op3 (opensFs_one (d := k30) (I := (fun x : S30 => (fun s : ByteArray => s.size ≤ 140737488351232) x.f0 ∧ ((fun n : Int => (Lit.int .i64 n).wf = true) x.f1))) (by rfl) op30))
theorem op38 : Opens Try.prog 38 (Kd.slice 47 k47) (fun xs => xs.length ≤ maxLen ∧ xs.length * Try.prog.bytesOf 47 ≤ 140737488351232 ∧ ∀ x ∈ xs, (fun x : S47 => (fun n : Int => (Lit.int .i64 n).wf = true) x.f0 ∧ ((fun x : S30 => (fun s : ByteArray => s.size ≤ 140737488351232) x.f0 ∧ ((fun n : Int => (Lit.int .i64 n).wf = true) x.f1)) x.f1)) x) := opens_slice Try.underlying38 (by kernel_rfl) op47
theorem own : ownKnob Try.prog.godebug = none := by kernel_rfl
theorem laidOut : laidOutB Try.prog = true := by kernel_rfl
set_option maxRecDepth 100000 in
theorem lifted (os : Os) (started : os.Started) (H : Type) (enc : TypeId × Value → H) :
    ReturnsInHanded {} Try.checked os 5 .any (Rows.plansPlaySpec.pre6 enc Try.prog Try.f5 Rows.plansPlayRow.domain false) (Rows.plansPlaySpec.post enc Try.prog Try.f5 false true false false) := by
  refine returnsInHanded_of_change_sized (C := Try.checked) own started (by kernel_rfl) Try.func5
    (ChangeSpec.witness6 (enc := enc) (C := Try.checked) false ⟨#[], #[.slice none 0 0, .slice none 0 0, .string ByteArray.empty, .int .i64 0], []⟩ 8 (by kernel_rfl) (by kernel_rfl) (by kernel_rfl) (by kernel_rfl)) ?_
  intro W base args ds gs before hval0 hW hcnd hsz0 _
  have hsz : (DataW.weightsEach Try.prog (Try.f5.params.toList ++ Rows.plansPlaySpec.plain.varTypes Try.prog) (ds ++ gs)).all (· ≤ reachBytes) = true := hsz0
  have hval : ∀ (j : Nat) t v, Try.f5.params[j]? = some t → args[j]? = some v → Value.okWide Try.prog W .any base t v := hval0
  have hW' := hW
  obtain ⟨p, q, hA0, hV, rfl, hfz, hnd⟩ := hW
  have hA : DataW.TrodAll enc Try.prog W 0 (fun _ => true) true Try.f5.params.toList args.toList ds p := hA0
  rw [Try.params5] at hA hval hsz
  obtain ⟨v0, vs0, d0, ds0, p0, q0, hargs, rfl, rfl, h0, r0⟩ := trodAll_cons hA
  obtain ⟨v1, vs1, d1, ds1, p1, q1, rfl, rfl, rfl, h1, r1⟩ := trodAll_cons r0
  obtain ⟨v2, vs2, d2, ds2, p2, q2, rfl, rfl, rfl, h2, r2⟩ := trodAll_cons r1
  obtain ⟨v3, vs3, d3, ds3, p3, q3, rfl, rfl, rfl, h3, r3⟩ := trodAll_cons r2
  obtain ⟨rfl, rfl, rfl⟩ := trodAll_nil r3
  obtain rfl : args = #[v0, v1, v2, v3] := by cases args; simp_all
  obtain ⟨rfl, rfl⟩ := trodVars_none hV
  have k0 := h0
  have lt0 : ∀ x ∈ p0, x.block < W.heap.size := by obtain ⟨m, hm⟩ := k0; exact DataW.trod_lt m _ _ _ hm
  obtain ⟨l0, hK0, hI0⟩ := opened op22 h0 hsz (j := 0) rfl rfl
  obtain ⟨A0, n0, c0, rfl⟩ := okWide_slice Try.underlying22 (hval 0 22 v0 rfl rfl)
  obtain ⟨A'0, c'0, hcs0, hc0, hr0⟩ := hK0
  simp only [Value.cells, List.cons.injEq, and_true, Value.slice.injEq] at hcs0
  obtain ⟨rfl, rfl, rfl⟩ := hcs0
  have k1 := h1
  have lt1 : ∀ x ∈ p1, x.block < W.heap.size := by obtain ⟨m, hm⟩ := k1; exact DataW.trod_lt m _ _ _ hm
  obtain ⟨l1, hK1, hI1⟩ := opened op38 h1 hsz (j := 1) rfl rfl
  obtain ⟨A1, n1, c1, rfl⟩ := okWide_slice Try.underlying38 (hval 1 38 v1 rfl rfl)
  obtain ⟨A'1, c'1, hcs1, hc1, hr1⟩ := hK1
  simp only [Value.cells, List.cons.injEq, and_true, Value.slice.injEq] at hcs1
  obtain ⟨rfl, rfl, rfl⟩ := hcs1
  have k2 := h2
  have lt2 : ∀ x ∈ p2, x.block < W.heap.size := by obtain ⟨m, hm⟩ := k2; exact DataW.trod_lt m _ _ _ hm
  obtain ⟨a2, rfl, rfl, rfl, y2⟩ := open_string Try.underlying9 (hval 2 9 v2 rfl rfl) h2
  have w2 : a2.size ≤ 140737488351232 := by
    have z := sized_string hsz (j := 2) (t := 9) rfl rfl
    rw [Array.length_toList] at z
    exact z
  have k3 := h3
  have lt3 : ∀ x ∈ p3, x.block < W.heap.size := by obtain ⟨m, hm⟩ := k3; exact DataW.trod_lt m _ _ _ hm
  obtain ⟨a3, rfl, rfl, rfl, w3⟩ := open_int Try.underlying2 (hval 3 2 v3 rfl rfl) h3
  have b3 : -9223372036854775808 ≤ a3 ∧ a3 ≤ 9223372036854775807 := by have h := w3; simp only [Lit.wf, Bool.and_eq_true, decide_eq_true_eq] at h; exact h
  clear hA0 hval0 hsz0 hsz
  refine (PG27.halyardlaw27_PlansPlay.run A0 c0 l0 A1 c1 l1 a2 a3 W hr0 hc0 hI0 hr1 hc1 hI1 w2 b3.1 b3.2).mono fun e W' ⟨he, bel⟩ => ?_
  subst he
  exact ⟨_, rfl, _, _, _, [], _, [], hW', trodAll_mk1 (shut_bool Try.underlying4 _), (trodAll_cons_mk (Below.trod laidOut (by kernel_rfl) (of_decide_eq_true (by kernel_rfl)) k0 bel lt0) (trodAll_cons_mk (Below.trod laidOut (by kernel_rfl) (of_decide_eq_true (by kernel_rfl)) k1 bel lt1) (trodAll_cons_mk (shut_string Try.underlying9 y2) (trodAll_cons_mk (shut_int Try.underlying2 w3) trodAll_mk0)))), rfl, bel.frame _, fun h => by cases h⟩
theorem over : Rows.plansPlayRow.holds Try.pinned (OpenSpec.ofChange Rows.plansPlaySpec) :=
  OpenClaim.holds_of_wide 5 Try.f5 rfl rfl rfl rfl rfl rfl rfl ⟨rfl, rfl, rfl, rfl, rfl⟩ rfl rfl rfl rfl rfl (by kernel_rfl) Try.func5 (by kernel_rfl)
    (of_decide_eq_true (by kernel_rfl)) (by unfold Func.isWrapper; first | (rw [if_pos (by decide +kernel)]; kernel_rfl) | (rw [if_neg (by decide +kernel)]; exact ⟨rfl, rfl⟩))
    (fun os started H enc _ => lifted os started H enc)
theorem proved : Rows.PlansPlaySaid := over
#print axioms proved
end Go.Proofs.Ytdahijckoblbgaa.plansPlay
namespace Go.Proofs.Ytdahijckoblbgaa
/-- The row, under a short name, for the claim. -/
theorem plansPlay_holds : Rows.PlansPlaySaid := plansPlay.proved
end Go.Proofs.Ytdahijckoblbgaa
