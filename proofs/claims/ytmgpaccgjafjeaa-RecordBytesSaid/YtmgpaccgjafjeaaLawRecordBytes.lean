/- The law halyard/halyardlaw28.RecordBytes: for every input it answers true, and each argument reads as it read; no condition. -/
import Derived.Test.YtmgpaccgjafjeaaHA
import Derived.Test.YtmgpaccgjafjeaaRows
import Derived.Test.YtmgpaccgjafjeaaWalkRecordBytes
import Derived.WalkKit
import Derived.ProofKit
import Derived.OpenShut
import Derived.ShutString
import Derived.ChangeOld
import Derived.Below
import Derived.SizedLaws
import Derived.Lib.SmallJoins
namespace Go.Proofs.Ytmgpaccgjafjeaa.recordBytes
open Go.ChangeShapes Go.WideShapes Go.ChangeAt Go.RowKit Go.Joins Go.Proofs.YtmgpaccgjafjeaaHA
open Go.ChangeMaps (open_string shut_string)
set_option linter.unusedVariables false
theorem own : ownKnob Try.prog.godebug = none := by kernel_rfl
theorem laidOut : laidOutB Try.prog = true := by kernel_rfl
set_option maxRecDepth 100000 in
theorem lifted (os : Os) (started : os.Started) (H : Type) (enc : TypeId × Value → H) :
    ReturnsInHanded {} Try.checked os 3 .any (Rows.recordBytesSpec.pre6 enc Try.prog Try.f3 Rows.recordBytesRow.domain false) (Rows.recordBytesSpec.post enc Try.prog Try.f3 false true false false) := by
  refine returnsInHanded_of_change_sized (C := Try.checked) own started (by kernel_rfl) Try.func3
    (ChangeSpec.witness6 (enc := enc) (C := Try.checked) false ⟨#[], #[.agg #[.string ByteArray.empty, .string ByteArray.empty, .string ByteArray.empty, .int .u32 0, .bool false], .agg #[.string ByteArray.empty, .string ByteArray.empty, .string ByteArray.empty, .int .u32 0, .bool false], .string ByteArray.empty], []⟩ 8 (by kernel_rfl) (by kernel_rfl) (by kernel_rfl) (by kernel_rfl)) ?_
  intro W base args ds gs before hval0 hW hcnd hsz0 _
  have hsz : (DataW.weightsEach Try.prog (Try.f3.params.toList ++ Rows.recordBytesSpec.plain.varTypes Try.prog) (ds ++ gs)).all (· ≤ reachBytes) = true := hsz0
  have hval : ∀ (j : Nat) t v, Try.f3.params[j]? = some t → args[j]? = some v → Value.okWide Try.prog W .any base t v := hval0
  have hW' := hW
  obtain ⟨p, q, hA0, hV, rfl, hfz, hnd⟩ := hW
  have hA : DataW.TrodAll enc Try.prog W 0 (fun _ => true) true Try.f3.params.toList args.toList ds p := hA0
  rw [Try.params3] at hA hval hsz
  obtain ⟨v0, vs0, d0, ds0, p0, q0, hargs, rfl, rfl, h0, r0⟩ := trodAll_cons hA
  obtain ⟨v1, vs1, d1, ds1, p1, q1, rfl, rfl, rfl, h1, r1⟩ := trodAll_cons r0
  obtain ⟨v2, vs2, d2, ds2, p2, q2, rfl, rfl, rfl, h2, r2⟩ := trodAll_cons r1
  obtain ⟨rfl, rfl, rfl⟩ := trodAll_nil r2
  obtain rfl : args = #[v0, v1, v2] := by cases args; simp_all
  obtain ⟨rfl, rfl⟩ := trodVars_none hV
  have k0 := h0
  have lt0 : ∀ x ∈ p0, x.block < W.heap.size := by obtain ⟨m, hm⟩ := k0; exact DataW.trod_lt m _ _ _ hm
  have hC0 : Try.prog.cellsOf 24 = 5 := by kernel_rfl
  obtain ⟨c0_0, c0_1, c0_2, c0_3, c0_4, z0_0, z0_1, z0_2, z0_3, z0_4, m0, rfl, rfl, rfl, hz0_0, hz0_1, hz0_2, hz0_3, hz0_4⟩ := open_agg5 Try.underlying24 (by kernel_rfl) hC0 (hval 0 24 v0 rfl rfl) h0
  obtain ⟨a0_0, ea0_0, rfl, ya0_0⟩ := DataW.trod_string Try.underlying9 hz0_0
  obtain rfl : c0_0 = .string a0_0 := by simpa using ea0_0
  obtain ⟨a0_1, ea0_1, rfl, ya0_1⟩ := DataW.trod_string Try.underlying9 hz0_1
  obtain rfl : c0_1 = .string a0_1 := by simpa using ea0_1
  obtain ⟨a0_2, ea0_2, rfl, ya0_2⟩ := DataW.trod_string Try.underlying9 hz0_2
  obtain rfl : c0_2 = .string a0_2 := by simpa using ea0_2
  obtain ⟨a0_3, ea0_3, rfl, wa0_3⟩ := DataW.trod_int Try.underlying22 hz0_3
  obtain rfl : c0_3 = .int .u32 a0_3 := by simpa using ea0_3
  have ba0_3 : 0 ≤ a0_3 ∧ a0_3 ≤ 4294967295 := by have h := wa0_3; simp only [Lit.wf, Bool.and_eq_true, decide_eq_true_eq] at h; exact h
  obtain ⟨a0_4, ea0_4, rfl⟩ := DataW.trod_bool Try.underlying4 hz0_4
  obtain rfl : c0_4 = .bool a0_4 := by simpa using ea0_4
  have wa0_0 : a0_0.size ≤ 140737488351232 := by
    have z := List.all_eq_true.1 hsz _ (DataW.weights_mem_each (j := 0) (t := 24) rfl rfl a0_0.data.toList.length (by simp [DataW.weights, DataW.weightsEach, Try.underlying24]))
    rw [Array.length_toList] at z
    exact of_decide_eq_true z
  have wa0_1 : a0_1.size ≤ 140737488351232 := by
    have z := List.all_eq_true.1 hsz _ (DataW.weights_mem_each (j := 0) (t := 24) rfl rfl a0_1.data.toList.length (by simp [DataW.weights, DataW.weightsEach, Try.underlying24]))
    rw [Array.length_toList] at z
    exact of_decide_eq_true z
  have wa0_2 : a0_2.size ≤ 140737488351232 := by
    have z := List.all_eq_true.1 hsz _ (DataW.weights_mem_each (j := 0) (t := 24) rfl rfl a0_2.data.toList.length (by simp [DataW.weights, DataW.weightsEach, Try.underlying24]))
    rw [Array.length_toList] at z
    exact of_decide_eq_true z
  have k1 := h1
  have lt1 : ∀ x ∈ p1, x.block < W.heap.size := by obtain ⟨m, hm⟩ := k1; exact DataW.trod_lt m _ _ _ hm
  have hC1 : Try.prog.cellsOf 24 = 5 := by kernel_rfl
  obtain ⟨c1_0, c1_1, c1_2, c1_3, c1_4, z1_0, z1_1, z1_2, z1_3, z1_4, m1, rfl, rfl, rfl, hz1_0, hz1_1, hz1_2, hz1_3, hz1_4⟩ := open_agg5 Try.underlying24 (by kernel_rfl) hC1 (hval 1 24 v1 rfl rfl) h1
  obtain ⟨a1_0, ea1_0, rfl, ya1_0⟩ := DataW.trod_string Try.underlying9 hz1_0
  obtain rfl : c1_0 = .string a1_0 := by simpa using ea1_0
  obtain ⟨a1_1, ea1_1, rfl, ya1_1⟩ := DataW.trod_string Try.underlying9 hz1_1
  obtain rfl : c1_1 = .string a1_1 := by simpa using ea1_1
  obtain ⟨a1_2, ea1_2, rfl, ya1_2⟩ := DataW.trod_string Try.underlying9 hz1_2
  obtain rfl : c1_2 = .string a1_2 := by simpa using ea1_2
  obtain ⟨a1_3, ea1_3, rfl, wa1_3⟩ := DataW.trod_int Try.underlying22 hz1_3
  obtain rfl : c1_3 = .int .u32 a1_3 := by simpa using ea1_3
  have ba1_3 : 0 ≤ a1_3 ∧ a1_3 ≤ 4294967295 := by have h := wa1_3; simp only [Lit.wf, Bool.and_eq_true, decide_eq_true_eq] at h; exact h
  obtain ⟨a1_4, ea1_4, rfl⟩ := DataW.trod_bool Try.underlying4 hz1_4
  obtain rfl : c1_4 = .bool a1_4 := by simpa using ea1_4
  have wa1_0 : a1_0.size ≤ 140737488351232 := by
    have z := List.all_eq_true.1 hsz _ (DataW.weights_mem_each (j := 1) (t := 24) rfl rfl a1_0.data.toList.length (by simp [DataW.weights, DataW.weightsEach, Try.underlying24]))
    rw [Array.length_toList] at z
    exact of_decide_eq_true z
  have wa1_1 : a1_1.size ≤ 140737488351232 := by
    have z := List.all_eq_true.1 hsz _ (DataW.weights_mem_each (j := 1) (t := 24) rfl rfl a1_1.data.toList.length (by simp [DataW.weights, DataW.weightsEach, Try.underlying24]))
    rw [Array.length_toList] at z
    exact of_decide_eq_true z
  have wa1_2 : a1_2.size ≤ 140737488351232 := by
    have z := List.all_eq_true.1 hsz _ (DataW.weights_mem_each (j := 1) (t := 24) rfl rfl a1_2.data.toList.length (by simp [DataW.weights, DataW.weightsEach, Try.underlying24]))
    rw [Array.length_toList] at z
    exact of_decide_eq_true z
  have k2 := h2
  have lt2 : ∀ x ∈ p2, x.block < W.heap.size := by obtain ⟨m, hm⟩ := k2; exact DataW.trod_lt m _ _ _ hm
  obtain ⟨a2, rfl, rfl, rfl, y2⟩ := open_string Try.underlying9 (hval 2 9 v2 rfl rfl) h2
  have w2 : a2.size ≤ 140737488351232 := by
    have z := sized_string hsz (j := 2) (t := 9) rfl rfl
    rw [Array.length_toList] at z
    exact z
  clear hA0 hval0 hsz0 hsz
  refine (PG28.halyardlaw28_RecordBytes.run a0_0 a0_1 a0_2 a0_3 a0_4 a1_0 a1_1 a1_2 a1_3 a1_4 a2 W wa0_0 wa0_1 wa0_2 ba0_3.1 ba0_3.2 wa1_0 wa1_1 wa1_2 ba1_3.1 ba1_3.2 w2).mono fun e W' ⟨he, bel⟩ => ?_
  subst he
  exact ⟨_, rfl, _, _, _, [], _, [], hW', trodAll_mk1 (shut_bool Try.underlying4 _), (trodAll_cons_mk (Below.trod laidOut (by kernel_rfl) (of_decide_eq_true (by kernel_rfl)) k0 bel lt0) (trodAll_cons_mk (Below.trod laidOut (by kernel_rfl) (of_decide_eq_true (by kernel_rfl)) k1 bel lt1) (trodAll_cons_mk (shut_string Try.underlying9 y2) trodAll_mk0))), rfl, bel.frame _, fun h => by cases h⟩
theorem over : Rows.recordBytesRow.holds Try.pinned (OpenSpec.ofChange Rows.recordBytesSpec) :=
  OpenClaim.holds_of_wide 3 Try.f3 rfl rfl rfl rfl rfl rfl rfl ⟨rfl, rfl, rfl, rfl, rfl⟩ rfl rfl rfl rfl rfl (by kernel_rfl) Try.func3 (by kernel_rfl)
    (of_decide_eq_true (by kernel_rfl)) (by unfold Func.isWrapper; first | (rw [if_pos (by decide +kernel)]; kernel_rfl) | (rw [if_neg (by decide +kernel)]; exact ⟨rfl, rfl⟩))
    (fun os started H enc _ => lifted os started H enc)
theorem proved : Rows.RecordBytesSaid := over
#print axioms proved
end Go.Proofs.Ytmgpaccgjafjeaa.recordBytes
namespace Go.Proofs.Ytmgpaccgjafjeaa
/-- The row, under a short name, for the claim. -/
theorem recordBytes_holds : Rows.RecordBytesSaid := recordBytes.proved
end Go.Proofs.Ytmgpaccgjafjeaa
