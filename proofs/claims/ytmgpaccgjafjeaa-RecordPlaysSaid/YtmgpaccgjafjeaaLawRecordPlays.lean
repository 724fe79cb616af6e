/- The law halyard/halyardlaw28.RecordPlays: for every input it answers true, and each argument reads as it read; no condition. -/
import Derived.Test.YtmgpaccgjafjeaaHOm
import Derived.Test.YtmgpaccgjafjeaaRows
import Derived.WalkKit
import Derived.ProofKit
import Derived.OpenShut
import Derived.ShutString
import Derived.ChangeOld
import Derived.Below
import Derived.SizedLaws
import Derived.Lib.SmallJoins
namespace Go.Proofs.Ytmgpaccgjafjeaa.recordPlays
open Go.ChangeShapes Go.WideShapes Go.ChangeAt Go.RowKit Go.Joins Go.Proofs.YtmgpaccgjafjeaaHO Go.Proofs.YtmgpaccgjafjeaaW.PrintWords Go.Proofs.Ytmgpaccgjafjeaa.PG28
open Go.ChangeMaps (open_string shut_string)
set_option linter.unusedVariables false
theorem op3 : Opens Try.prog 3 (Kd.int .i64) (fun n : Int => (Lit.int .i64 n).wf = true) := opens_int Try.underlying3 (by kernel_rfl)
theorem op9 : Opens Try.prog 9 Kd.string (fun s : ByteArray => s.size ≤ 140737488351232) := opens_string Try.underlying9 (by kernel_rfl)
theorem op22 : Opens Try.prog 22 (Kd.int .u32) (fun n : Int => (Lit.int .u32 n).wf = true) := opens_int Try.underlying22 (by kernel_rfl)
theorem op4 : Opens Try.prog 4 Kd.bool (fun _ : Bool => True) := opens_bool Try.underlying4 (by kernel_rfl)
set_option maxRecDepth 100000 in
theorem op24 : Opens Try.prog 24 k24 (fun x : S24 => (fun s : ByteArray => s.size ≤ 140737488351232) x.f0 ∧ ((fun s : ByteArray => s.size ≤ 140737488351232) x.f1 ∧ ((fun s : ByteArray => s.size ≤ 140737488351232) x.f2 ∧ ((fun n : Int => (Lit.int .u32 n).wf = true) x.f3 ∧ ((fun _ : Bool => True) x.f4))))) := opens_struct (d := (Kd.pair Kd.string (Kd.pair Kd.string (Kd.pair Kd.string (Kd.pair (Kd.int .u32) Kd.bool))))) (I := (fun x_ : (ByteArray × (ByteArray × (ByteArray × (Int × Bool)))) => (fun s : ByteArray => s.size ≤ 140737488351232) x_.1 ∧ (fun x_ : (ByteArray × (ByteArray × (Int × Bool))) => (fun s : ByteArray => s.size ≤ 140737488351232) x_.1 ∧ (fun x_ : (ByteArray × (Int × Bool)) => (fun s : ByteArray => s.size ≤ 140737488351232) x_.1 ∧ (fun x_ : (Int × Bool) => (fun n : Int => (Lit.int .u32 n).wf = true) x_.1 ∧ (fun _ : Bool => True) x_.2) x_.2) x_.2) x_.2)) (fun x : S24 => (x.f0, x.f1, x.f2, x.f3, x.f4)) (fun y => ⟨y.1, y.2.1, y.2.2.1, y.2.2.2.1, y.2.2.2.2⟩) (fun _ => rfl) Try.underlying24 (by kernel_rfl) (opensFs_cons (d := Kd.string) (d' := (Kd.pair Kd.string (Kd.pair Kd.string (Kd.pair (Kd.int .u32) Kd.bool)))) (I := (fun s : ByteArray => s.size ≤ 140737488351232)) (I' := (fun x_ : (ByteArray × (ByteArray × (Int × Bool))) => (fun s : ByteArray => s.size ≤ 140737488351232) x_.1 ∧ (fun x_ : (ByteArray × (Int × Bool)) => (fun s : ByteArray => s.size ≤ 140737488351232) x_.1 ∧ (fun x_ : (Int × Bool) => (fun n : Int => (Lit.int .u32 n).wf = true) x_.1 ∧ (fun _ : Bool => True) x_.2) x_.2) x_.2)) (by rfl) op9 (opensFs_cons (d := Kd.string) (d' := (Kd.pair Kd.string (Kd.pair (Kd.int .u32) Kd.bool))) (I := (fun s : ByteArray => s.size ≤ 140737488351232)) (I' := (fun x_ : (ByteArray × (Int × Bool)) => (fun s : ByteArray => s.size ≤ 140737488351232) x_.1 ∧ (fun x_ : (Int × Bool) => (fun n : Int => (Lit.int .u32 n).wf = true) x_.1 ∧ (fun _ : Bool => True) x_.2) x_.2)) (by rfl) op9 (opensFs_cons (d := Kd.string) (d' := (Kd.pair (Kd.int .u32) Kd.bool)) (I := (fun s : ByteArray => s.size ≤ 140737488351232)) (I' := (fun x_ : (Int × Bool) => (fun n : Int => (Lit.int .u32 n).wf = true) x_.1 ∧ (fun _ : Bool => True) x_.2)) (by rfl) op9 (opensFs_cons (d := (Kd.int .u32)) (d' := Kd.bool) (I := (fun n : Int => (Lit.int .u32 n).wf = true)) (I' := (fun _ : Bool => True)) (by rfl) op22 (opensFs_one (d := Kd.bool) (I := (fun _ : Bool => True)) (by rfl) op4)))))
set_option maxRecDepth 100000 in
theorem op60 : Opens Try.prog 60 k60 (fun x : S60 => (fun n : Int => (Lit.int .i64 n).wf = true) x.f0 ∧ ((fun x : S24 => (fun s : ByteArray => s.size ≤ 140737488351232) x.f0 ∧ ((fun s : ByteArray => s.size ≤ 140737488351232) x.f1 ∧ ((fun s : ByteArray => s.size ≤ 140737488351232) x.f2 ∧ ((fun n : Int => (Lit.int .u32 n).wf = true) x.f3 ∧ ((fun _ : Bool => True) x.f4))))) x.f1)) := opens_struct (d := (Kd.pair (Kd.int .i64) k24)) (I := (fun x_ : (Int × S24) => (fun n : Int => (Lit.int .i64 n).wf = true) x_.1 ∧ (fun x : S24 => (fun s : ByteArray => s.size ≤ 140737488351232) x.f0 ∧ ((fun s : ByteArray => s.size ≤ 140737488351232) x.f1 ∧ ((fun s : ByteArray => s.size ≤ 140737488351232) x.f2 ∧ ((fun n : Int => (Lit.int .u32 n).wf = true) x.f3 ∧ ((fun _ : Bool => True) x.f4))))) x_.2)) (fun x : S60 => (x.f0, x.f1)) (fun y => ⟨y.1, y.2⟩) (fun _ => rfl) Try.underlying60 (by kernel_rfl) (opensFs_cons (d := (Kd.int .i64)) (d' := k24) (I := (fun n : Int => (Lit.int .i64 n).wf = true)) (I' := (fun x : S24 => (fun s : ByteArray => s.size ≤ 140737488351232) x.f0 ∧ ((fun s : ByteArray => s.size ≤ 140737488351232) x.f1 ∧ ((fun s : ByteArray => s.size ≤ 140737488351232) x.f2 ∧ ((fun n : Int => (Lit.int .u32 n).wf = true) x.f3 ∧ ((fun _ : Bool => True) x.f4)))))) (by rfl) op3 (opensFs_one (d := k24) (I := (fun x : S24 => (fun s : ByteArray => s.size ≤ 140737488351232) x.f0 ∧ ((fun s : ByteArray => s.size ≤ 140737488351232) x.f1 ∧ ((fun s : ByteArray => s.size ≤ 140737488351232) x.f2 ∧ ((fun n : Int => (Lit.int .u32 n).wf = true) x.f3 ∧ ((fun _ : Bool => True) x.f4)))))) (by rfl) op24))
theorem op54 : Opens Try.prog 54 (Kd.slice 60 k60) (fun xs => xs.length ≤ maxLen ∧ xs.length * Try.prog.bytesOf 60 ≤ 140737488351232 ∧ ∀ x ∈ xs, (fun x : S60 => (fun n : Int => (Lit.int .i64 n).wf = true) x.f0 ∧ ((fun x : S24 => (fun s : ByteArray => s.size ≤ 140737488351232) x.f0 ∧ ((fun s : ByteArray => s.size ≤ 140737488351232) x.f1 ∧ ((fun s : ByteArray => s.size ≤ 140737488351232) x.f2 ∧ ((fun n : Int => (Lit.int .u32 n).wf = true) x.f3 ∧ ((fun _ : Bool => True) x.f4))))) x.f1)) x) := opens_slice Try.underlying54 (by kernel_rfl) op60
theorem own : ownKnob Try.prog.godebug = none := by kernel_rfl
theorem laidOut : laidOutB Try.prog = true := by kernel_rfl
set_option maxRecDepth 100000 in
theorem lifted (os : Os) (started : os.Started) (H : Type) (enc : TypeId × Value → H) :
    ReturnsInHanded {} Try.checked os 6 .any (Rows.recordPlaysSpec.pre6 enc Try.prog Try.f6 Rows.recordPlaysRow.domain false) (Rows.recordPlaysSpec.post enc Try.prog Try.f6 false true false false) := by
  refine returnsInHanded_of_change_sized (C := Try.checked) own started (by kernel_rfl) Try.func6
    (ChangeSpec.witness6 (enc := enc) (C := Try.checked) false ⟨#[], #[.int .i64 0, .slice none 0 0, .string ByteArray.empty, .int .u32 0], []⟩ 8 (by kernel_rfl) (by kernel_rfl) (by kernel_rfl) (by kernel_rfl)) ?_
  intro W base args ds gs before hval0 hW hcnd hsz0 _
  have hsz : (DataW.weightsEach Try.prog (Try.f6.params.toList ++ Rows.recordPlaysSpec.plain.varTypes Try.prog) (ds ++ gs)).all (· ≤ reachBytes) = true := hsz0
  have hval : ∀ (j : Nat) t v, Try.f6.params[j]? = some t → args[j]? = some v → Value.okWide Try.prog W .any base t v := hval0
  have hW' := hW
  obtain ⟨p, q, hA0, hV, rfl, hfz, hnd⟩ := hW
  have hA : DataW.TrodAll enc Try.prog W 0 (fun _ => true) true Try.f6.params.toList args.toList ds p := hA0
  rw [Try.params6] at hA hval hsz
  obtain ⟨v0, vs0, d0, ds0, p0, q0, hargs, rfl, rfl, h0, r0⟩ := trodAll_cons hA
  obtain ⟨v1, vs1, d1, ds1, p1, q1, rfl, rfl, rfl, h1, r1⟩ := trodAll_cons r0
  obtain ⟨v2, vs2, d2, ds2, p2, q2, rfl, rfl, rfl, h2, r2⟩ := trodAll_cons r1
  obtain ⟨v3, vs3, d3, ds3, p3, q3, rfl, rfl, rfl, h3, r3⟩ := trodAll_cons r2
  obtain ⟨rfl, rfl, rfl⟩ := trodAll_nil r3
  obtain rfl : args = #[v0, v1, v2, v3] := by cases args; simp_all
  obtain ⟨rfl, rfl⟩ := trodVars_none hV
  have k0 := h0
  have lt0 : ∀ x ∈ p0, x.block < W.heap.size := by obtain ⟨m, hm⟩ := k0; exact DataW.trod_lt m _ _ _ hm
  obtain ⟨a0, rfl, rfl, rfl, w0⟩ := open_int Try.underlying3 (hval 0 3 v0 rfl rfl) h0
  have b0 : -9223372036854775808 ≤ a0 ∧ a0 ≤ 9223372036854775807 := by have h := w0; simp only [Lit.wf, Bool.and_eq_true, decide_eq_true_eq] at h; exact h
  have k1 := h1
  have lt1 : ∀ x ∈ p1, x.block < W.heap.size := by obtain ⟨m, hm⟩ := k1; exact DataW.trod_lt m _ _ _ hm
  obtain ⟨l1, hK1, hI1⟩ := opened op54 h1 hsz (j := 1) rfl rfl
  obtain ⟨A1, n1, c1, rfl⟩ := okWide_slice Try.underlying54 (hval 1 54 v1 rfl rfl)
  obtain ⟨A'1, c'1, hcs1, hc1, hr1⟩ := hK1
  simp only [Value.cells, List.cons.injEq, and_true, Value.slice.injEq] at hcs1
  obtain ⟨rfl, rfl, rfl⟩ := hcs1
  have k2 := h2
  have lt2 : ∀ x ∈ p2, x.block < W.heap.size := by obtain ⟨m, hm⟩ := k2; exact DataW.trod_lt m _ _ _ hm
  obtain ⟨a2, rfl, rfl, rfl, y2⟩ := open_string Try.underlying9 (hval 2 9 v2 rfl rfl) h2
  have w2 : a2.size ≤ 140737488351232 := by
    have z := sized_string hsz (j := 2) (t := 9) rfl rfl
    rw [Array.length_toList] at z
    exact z
  have k3 := h3
  have lt3 : ∀ x ∈ p3, x.block < W.heap.size := by obtain ⟨m, hm⟩ := k3; exact DataW.trod_lt m _ _ _ hm
  obtain ⟨a3, rfl, rfl, rfl, w3⟩ := open_int Try.underlying22 (hval 3 22 v3 rfl rfl) h3
  have b3 : 0 ≤ a3 ∧ a3 ≤ 4294967295 := by have h := w3; simp only [Lit.wf, Bool.and_eq_true, decide_eq_true_eq] at h; exact h
  clear hA0 hval0 hsz0 hsz
  refine (PG28.halyardlaw28_RecordPlays.run a0 A1 c1 l1 a2 a3 W b0.1 b0.2 hr1 hc1 hI1 w2 b3.1 b3.2).mono fun e W' ⟨he, bel⟩ => ?_
  subst he
  exact ⟨_, rfl, _, _, _, [], _, [], hW', trodAll_mk1 (shut_bool Try.underlying4 _), (trodAll_cons_mk (shut_int Try.underlying3 w0) (trodAll_cons_mk (Below.trod laidOut (by kernel_rfl) (of_decide_eq_true (by kernel_rfl)) k1 bel lt1) (trodAll_cons_mk (shut_string Try.underlying9 y2) (trodAll_cons_mk (shut_int Try.underlying22 w3) trodAll_mk0)))), rfl, bel.frame _, fun h => by cases h⟩
theorem over : Rows.recordPlaysRow.holds Try.pinned (OpenSpec.ofChange Rows.recordPlaysSpec) :=
  OpenClaim.holds_of_wide 6 Try.f6 rfl rfl rfl rfl rfl rfl rfl ⟨rfl, rfl, rfl, rfl, rfl⟩ rfl rfl rfl rfl rfl (by kernel_rfl) Try.func6 (by kernel_rfl)
    (of_decide_eq_true (by kernel_rfl)) (by unfold Func.isWrapper; first | (rw [if_pos (by decide +kernel)]; kernel_rfl) | (rw [if_neg (by decide +kernel)]; exact ⟨rfl, rfl⟩))
    (fun os started H enc _ => lifted os started H enc)
theorem proved : Rows.RecordPlaysSaid := over
#print axioms proved
end Go.Proofs.Ytmgpaccgjafjeaa.recordPlays
namespace Go.Proofs.Ytmgpaccgjafjeaa
/-- The row, under a short name, for the claim. -/
theorem recordPlays_holds : Rows.RecordPlaysSaid := recordPlays.proved
end Go.Proofs.Ytmgpaccgjafjeaa
