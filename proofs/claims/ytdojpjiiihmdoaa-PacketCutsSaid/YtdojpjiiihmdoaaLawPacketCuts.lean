/- The law halyard/halyardlaw07.PacketCuts: for every input it answers true, and each argument reads as it read; no condition. -/
import Derived.Test.YtdojpjiiihmdoaaRows
import Derived.Test.YtdojpjiiihmdoaaWalkPacketCuts
import Derived.WalkKit
import Derived.ProofKit
import Derived.OpenShut
import Derived.ShutString
import Derived.ChangeOld
import Derived.Below
import Derived.SizedLaws
import Derived.Lib.SmallJoins
namespace Go.Proofs.Ytdojpjiiihmdoaa.packetCuts
open Go.ChangeShapes Go.WideShapes Go.ChangeAt Go.RowKit Go.Joins
open Go.ChangeMaps (open_string shut_string)
set_option linter.unusedVariables false
theorem own : ownKnob Try.prog.godebug = none := by kernel_rfl
theorem laidOut : laidOutB Try.prog = true := by kernel_rfl
set_option maxRecDepth 100000 in
theorem lifted (os : Os) (started : os.Started) (H : Type) (enc : TypeId × Value → H) :
    ReturnsInHanded {} Try.checked os 4 .any (Rows.packetCutsSpec.pre6 enc Try.prog Try.f4 Rows.packetCutsRow.domain false) (Rows.packetCutsSpec.post enc Try.prog Try.f4 false true false false) := by
  refine returnsInHanded_of_change_sized (C := Try.checked) own started (by kernel_rfl) Try.func4
    (ChangeSpec.witness6 (enc := enc) (C := Try.checked) false ⟨#[], #[.agg #[.int .u8 0, .int .u8 0, .string ByteArray.empty], .agg #[.int .u8 0, .int .u8 0, .string ByteArray.empty], .int .u16 0], []⟩ 8 (by kernel_rfl) (by kernel_rfl) (by kernel_rfl) (by kernel_rfl)) ?_
  intro W base args ds gs before hval0 hW hcnd hsz0 _
  have hsz : (DataW.weightsEach Try.prog (Try.f4.params.toList ++ Rows.packetCutsSpec.plain.varTypes Try.prog) (ds ++ gs)).all (· ≤ reachBytes) = true := hsz0
  have hval : ∀ (j : Nat) t v, Try.f4.params[j]? = some t → args[j]? = some v → Value.okWide Try.prog W .any base t v := hval0
  have hW' := hW
  obtain ⟨p, q, hA0, hV, rfl, hfz, hnd⟩ := hW
  have hA : DataW.TrodAll enc Try.prog W 0 (fun _ => true) true Try.f4.params.toList args.toList ds p := hA0
  rw [Try.params4] at hA hval hsz
  obtain ⟨v0, vs0, d0, ds0, p0, q0, hargs, rfl, rfl, h0, r0⟩ := trodAll_cons hA
  obtain ⟨v1, vs1, d1, ds1, p1, q1, rfl, rfl, rfl, h1, r1⟩ := trodAll_cons r0
  obtain ⟨v2, vs2, d2, ds2, p2, q2, rfl, rfl, rfl, h2, r2⟩ := trodAll_cons r1
  obtain ⟨rfl, rfl, rfl⟩ := trodAll_nil r2
  obtain rfl : args = #[v0, v1, v2] := by cases args; simp_all
  obtain ⟨rfl, rfl⟩ := trodVars_none hV
  have k0 := h0
  have lt0 : ∀ x ∈ p0, x.block < W.heap.size := by obtain ⟨m, hm⟩ := k0; exact DataW.trod_lt m _ _ _ hm
  have hC0 : Try.prog.cellsOf 23 = 3 := by kernel_rfl
  obtain ⟨c0_0, c0_1, c0_2, z0_0, z0_1, z0_2, m0, rfl, rfl, rfl, hz0_0, hz0_1, hz0_2⟩ := open_agg3 Try.underlying23 (by kernel_rfl) hC0 (hval 0 23 v0 rfl rfl) h0
  obtain ⟨a0_0, ea0_0, rfl, wa0_0⟩ := DataW.trod_int Try.underlying5 hz0_0
  obtain rfl : c0_0 = .int .u8 a0_0 := by simpa using ea0_0
  have ba0_0 : 0 ≤ a0_0 ∧ a0_0 ≤ 255 := by have h := wa0_0; simp only [Lit.wf, Bool.and_eq_true, decide_eq_true_eq] at h; exact h
  obtain ⟨a0_1, ea0_1, rfl, wa0_1⟩ := DataW.trod_int Try.underlying5 hz0_1
  obtain rfl : c0_1 = .int .u8 a0_1 := by simpa using ea0_1
  have ba0_1 : 0 ≤ a0_1 ∧ a0_1 ≤ 255 := by have h := wa0_1; simp only [Lit.wf, Bool.and_eq_true, decide_eq_true_eq] at h; exact h
  obtain ⟨a0_2, ea0_2, rfl, ya0_2⟩ := DataW.trod_string Try.underlying9 hz0_2
  obtain rfl : c0_2 = .string a0_2 := by simpa using ea0_2
  have wa0_2 : a0_2.size ≤ 140737488351232 := by
    have z := List.all_eq_true.1 hsz _ (DataW.weights_mem_each (j := 0) (t := 23) rfl rfl a0_2.data.toList.length (by simp [DataW.weights, DataW.weightsEach, Try.underlying23]))
    rw [Array.length_toList] at z
    exact of_decide_eq_true z
  have k1 := h1
  have lt1 : ∀ x ∈ p1, x.block < W.heap.size := by obtain ⟨m, hm⟩ := k1; exact DataW.trod_lt m _ _ _ hm
  have hC1 : Try.prog.cellsOf 23 = 3 := by kernel_rfl
  obtain ⟨c1_0, c1_1, c1_2, z1_0, z1_1, z1_2, m1, rfl, rfl, rfl, hz1_0, hz1_1, hz1_2⟩ := open_agg3 Try.underlying23 (by kernel_rfl) hC1 (hval 1 23 v1 rfl rfl) h1
  obtain ⟨a1_0, ea1_0, rfl, wa1_0⟩ := DataW.trod_int Try.underlying5 hz1_0
  obtain rfl : c1_0 = .int .u8 a1_0 := by simpa using ea1_0
  have ba1_0 : 0 ≤ a1_0 ∧ a1_0 ≤ 255 := by have h := wa1_0; simp only [Lit.wf, Bool.and_eq_true, decide_eq_true_eq] at h; exact h
  obtain ⟨a1_1, ea1_1, rfl, wa1_1⟩ := DataW.trod_int Try.underlying5 hz1_1
  obtain rfl : c1_1 = .int .u8 a1_1 := by simpa using ea1_1
  have ba1_1 : 0 ≤ a1_1 ∧ a1_1 ≤ 255 := by have h := wa1_1; simp only [Lit.wf, Bool.and_eq_true, decide_eq_true_eq] at h; exact h
  obtain ⟨a1_2, ea1_2, rfl, ya1_2⟩ := DataW.trod_string Try.underlying9 hz1_2
  obtain rfl : c1_2 = .string a1_2 := by simpa using ea1_2
  have wa1_2 : a1_2.size ≤ 140737488351232 := by
    have z := List.all_eq_true.1 hsz _ (DataW.weights_mem_each (j := 1) (t := 23) rfl rfl a1_2.data.toList.length (by simp [DataW.weights, DataW.weightsEach, Try.underlying23]))
    rw [Array.length_toList] at z
    exact of_decide_eq_true z
  have k2 := h2
  have lt2 : ∀ x ∈ p2, x.block < W.heap.size := by obtain ⟨m, hm⟩ := k2; exact DataW.trod_lt m _ _ _ hm
  obtain ⟨a2, rfl, rfl, rfl, w2⟩ := open_int Try.underlying31 (hval 2 31 v2 rfl rfl) h2
  have b2 : 0 ≤ a2 ∧ a2 ≤ 65535 := by have h := w2; simp only [Lit.wf, Bool.and_eq_true, decide_eq_true_eq] at h; exact h
  clear hA0 hval0 hsz0 hsz
  refine (PG07.halyardlaw07_PacketCuts.run a0_0 a0_1 a0_2 a1_0 a1_1 a1_2 a2 W ba0_0.1 ba0_0.2 ba0_1.1 ba0_1.2 wa0_2 ba1_0.1 ba1_0.2 ba1_1.1 ba1_1.2 wa1_2 b2.1 b2.2).mono fun e W' ⟨he, bel⟩ => ?_
  subst he
  exact ⟨_, rfl, _, _, _, [], _, [], hW', trodAll_mk1 (shut_bool Try.underlying4 _), (trodAll_cons_mk (Below.trod laidOut (by kernel_rfl) (of_decide_eq_true (by kernel_rfl)) k0 bel lt0) (trodAll_cons_mk (Below.trod laidOut (by kernel_rfl) (of_decide_eq_true (by kernel_rfl)) k1 bel lt1) (trodAll_cons_mk (shut_int Try.underlying31 w2) trodAll_mk0))), rfl, bel.frame _, fun h => by cases h⟩
theorem over : Rows.packetCutsRow.holds Try.pinned (OpenSpec.ofChange Rows.packetCutsSpec) :=
  OpenClaim.holds_of_wide 4 Try.f4 rfl rfl rfl rfl rfl rfl rfl ⟨rfl, rfl, rfl, rfl, rfl⟩ rfl rfl rfl rfl rfl (by kernel_rfl) Try.func4 (by kernel_rfl)
    (of_decide_eq_true (by kernel_rfl)) (by unfold Func.isWrapper; first | (rw [if_pos (by decide +kernel)]; kernel_rfl) | (rw [if_neg (by decide +kernel)]; exact ⟨rfl, rfl⟩))
    (fun os started H enc _ => lifted os started H enc)
theorem proved : Rows.PacketCutsSaid := over
#print axioms proved
end Go.Proofs.Ytdojpjiiihmdoaa.packetCuts
namespace Go.Proofs.Ytdojpjiiihmdoaa
/-- The row, under a short name, for the claim. -/
theorem packetCuts_holds : Rows.PacketCutsSaid := packetCuts.proved
end Go.Proofs.Ytdojpjiiihmdoaa
