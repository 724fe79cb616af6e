/- The law halyardlaw10.IpcpoptBack: the row, and its tied card. -/
import Derived.Test.YtemddnccomeibaaDoorHA6
import Derived.Test.YtemddnccomeibaaDoorHIpC
import Derived.Test.YtemddnccomeibaaDoorHIpBw
import Derived.Test.YtemddnccomeibaaDoorCards
import Derived.Test.YtemddnccomeibaaDoorTie
import Derived.WalkKit
import Derived.ProofKit
import Derived.OpenShut
import Derived.ShutString
import Derived.ChangeOld
import Derived.Below
import Derived.SizedLaws
import Derived.Lib.SmallJoins
import Derived.SevenTiedAt
namespace Go.Proofs.YtemddnccomeibaaDoor.ipcpoptBack
open Go.ChangeShapes Go.WideShapes Go.ChangeAt Go.RowKit Go.Joins Go.Proofs.YtemddnccomeibaaDoorHIp
open Go.ChangeMaps (open_string shut_string)
open Go.Proofs.YtemddnccomeibaaDoorHA6
set_option linter.unusedVariables false
set_option maxRecDepth 100000 in
theorem lifted (os : Os) (started : os.Started) (H : Type) (enc : TypeId × Value → H) :
    ReturnsInHanded {} Tryd.checked os 4 .any (fun w args => (Rows.ipcpoptBackSpec.pre enc Tryd.prog Tryd.f4 [] false w args ∧ laidMetH Tryd.prog laidL w) ∧ sizedMet enc Tryd.prog Tryd.f4 (OpenSpec.ofChange Rows.ipcpoptBackSpec) false w args) (Rows.ipcpoptBackSpec.post enc Tryd.prog Tryd.f4 false true false false) := by
  refine handed_and_shaped (C := Tryd.checked) (X := fun w _ => laidMetH Tryd.prog laidL w) (fun _ _ _ hh h => h.of_heap hh) own started (by kernel_rfl) Tryd.func4
    (ChangeSpec.witness_shaped (enc := enc) (C := Tryd.checked) (os := os) (X := fun w _ => laidMetH Tryd.prog laidL w) false (World.doorLaid Tryd.prog 70 os) #[.agg #[.bool false, .int .u32 0, .bool false, .int .u32 0, .bool false, .int .u32 0], .int .u32 0, .int .u32 0, .string ByteArray.empty] 8 rfl (World.shaped_of_RefB (by kernel_rfl) (by kernel_rfl)) (by kernel_rfl) (by kernel_rfl) (by kernel_rfl) (door_met os _)) ?_
  intro W base args ds gs before hval0 hW hsz0 hL hS _
  have hsz : (DataW.weightsEach Tryd.prog (Tryd.f4.params.toList ++ Rows.ipcpoptBackSpec.plain.varTypes Tryd.prog) (ds ++ gs)).all (· ≤ reachBytes) = true := hsz0
  have hval : ∀ (j : Nat) t v, Tryd.f4.params[j]? = some t → args[j]? = some v → Value.okWide Tryd.prog W .any base t v := hval0
  have hW' := hW
  obtain ⟨p, q, hA0, hV, rfl, hfz, hnd⟩ := hW
  have hA : DataW.TrodAll enc Tryd.prog W 0 (fun _ => true) true Tryd.f4.params.toList args.toList ds p := hA0
  rw [Tryd.params4] at hA hval hsz
  obtain ⟨v0, vs0, d0, ds0, p0, q0, hargs, rfl, rfl, h0, r0⟩ := trodAll_cons hA
  obtain ⟨v1, vs1, d1, ds1, p1, q1, rfl, rfl, rfl, h1, r1⟩ := trodAll_cons r0
  obtain ⟨v2, vs2, d2, ds2, p2, q2, rfl, rfl, rfl, h2, r2⟩ := trodAll_cons r1
  obtain ⟨v3, vs3, d3, ds3, p3, q3, rfl, rfl, rfl, h3, r3⟩ := trodAll_cons r2
  obtain ⟨rfl, rfl, rfl⟩ := trodAll_nil r3
  obtain rfl : args = #[v0, v1, v2, v3] := by cases args; simp_all
  obtain ⟨rfl, rfl⟩ := trodVars_none hV
  have HV := of_laid hL hS
  have k0 := h0
  have lt0 : ∀ x ∈ p0, x.block < W.heap.size := by obtain ⟨m, hm⟩ := k0; exact DataW.trod_lt m _ _ _ hm
  have hC : Tryd.prog.cellsOf 30 = 6 := by kernel_rfl
  obtain ⟨c0, c1, c2, c3, c4, c5, z0, z1, z2, z3, z4, z5, m0, rfl, rfl, rfl, hz0, hz1, hz2, hz3, hz4, hz5⟩ := open_agg6 Tryd.underlying30 (by kernel_rfl) hC (hval 0 30 v0 rfl rfl) h0
  obtain ⟨x0, e0, rfl⟩ := DataW.trod_bool Tryd.underlying4 hz0
  obtain rfl : c0 = .bool x0 := by simpa using e0
  obtain ⟨x1, e1, rfl, u1⟩ := DataW.trod_int Tryd.underlying22 hz1
  obtain rfl : c1 = .int .u32 x1 := by simpa using e1
  have n1 : 0 ≤ x1 ∧ x1 ≤ 4294967295 := by have h := u1; simp only [Lit.wf, Bool.and_eq_true, decide_eq_true_eq] at h; exact h
  obtain ⟨x2, e2, rfl⟩ := DataW.trod_bool Tryd.underlying4 hz2
  obtain rfl : c2 = .bool x2 := by simpa using e2
  obtain ⟨x3, e3, rfl, u3⟩ := DataW.trod_int Tryd.underlying22 hz3
  obtain rfl : c3 = .int .u32 x3 := by simpa using e3
  have n3 : 0 ≤ x3 ∧ x3 ≤ 4294967295 := by have h := u3; simp only [Lit.wf, Bool.and_eq_true, decide_eq_true_eq] at h; exact h
  obtain ⟨x4, e4, rfl⟩ := DataW.trod_bool Tryd.underlying4 hz4
  obtain rfl : c4 = .bool x4 := by simpa using e4
  obtain ⟨x5, e5, rfl, u5⟩ := DataW.trod_int Tryd.underlying22 hz5
  obtain rfl : c5 = .int .u32 x5 := by simpa using e5
  have n5 : 0 ≤ x5 ∧ x5 ≤ 4294967295 := by have h := u5; simp only [Lit.wf, Bool.and_eq_true, decide_eq_true_eq] at h; exact h
  have k1 := h1
  have lt1 : ∀ x ∈ p1, x.block < W.heap.size := by obtain ⟨m, hm⟩ := k1; exact DataW.trod_lt m _ _ _ hm
  obtain ⟨a1, rfl, rfl, rfl, w1⟩ := open_int Tryd.underlying22 (hval 1 22 v1 rfl rfl) h1
  have b1 : 0 ≤ a1 ∧ a1 ≤ 4294967295 := by have h := w1; simp only [Lit.wf, Bool.and_eq_true, decide_eq_true_eq] at h; exact h
  have k2 := h2
  have lt2 : ∀ x ∈ p2, x.block < W.heap.size := by obtain ⟨m, hm⟩ := k2; exact DataW.trod_lt m _ _ _ hm
  obtain ⟨a2, rfl, rfl, rfl, w2⟩ := open_int Tryd.underlying22 (hval 2 22 v2 rfl rfl) h2
  have b2 : 0 ≤ a2 ∧ a2 ≤ 4294967295 := by have h := w2; simp only [Lit.wf, Bool.and_eq_true, decide_eq_true_eq] at h; exact h
  have k3 := h3
  have lt3 : ∀ x ∈ p3, x.block < W.heap.size := by obtain ⟨m, hm⟩ := k3; exact DataW.trod_lt m _ _ _ hm
  obtain ⟨a3, rfl, rfl, rfl, y3⟩ := open_string Tryd.underlying9 (hval 3 9 v3 rfl rfl) h3
  have w3 : a3.size ≤ 140737488351232 := by
    have z := sized_string hsz (j := 3) (t := 9) rfl rfl
    rw [Array.length_toList] at z
    exact z
  clear hA0 hval0 hsz0 hsz
  refine (IpcpoptBack_run ⟨x0, x1, x2, x3, x4, x5⟩ ⟨n1.1, Int.lt_of_le_of_lt n1.2 (by decide), n3.1, Int.lt_of_le_of_lt n3.2 (by decide), n5.1, Int.lt_of_le_of_lt n5.2 (by decide)⟩ a1 a2 a3 b1.1 (by omega) b2.1 (by omega) W HV).mono fun e W' ⟨he, bel⟩ => ?_
  subst he
  exact ⟨_, rfl, _, _, _, [], _, [], hW', trodAll_mk1 (shut_bool Tryd.underlying4 _), (trodAll_cons_mk (Below.trod laidOut (by kernel_rfl) (of_decide_eq_true (by kernel_rfl)) k0 bel lt0) (trodAll_cons_mk (shut_int Tryd.underlying22 w1) (trodAll_cons_mk (shut_int Tryd.underlying22 w2) (trodAll_cons_mk (shut_string Tryd.underlying9 y3) trodAll_mk0)))), rfl, bel.frame _, fun h => by cases h⟩
theorem over : Rows.ipcpoptBackRow.holds Tryd.pinned (OpenSpec.ofChange Rows.ipcpoptBackSpec) :=
  OpenClaim.holds_of_wide 4 Tryd.f4 rfl rfl rfl rfl rfl rfl rfl ⟨rfl, rfl, rfl, rfl, rfl⟩ rfl rfl rfl rfl rfl (by kernel_rfl) Tryd.func4 (by kernel_rfl)
    (of_decide_eq_true (by kernel_rfl)) (by unfold Func.isWrapper; first | (rw [if_pos (by decide +kernel)]; kernel_rfl) | (rw [if_neg (by decide +kernel)]; exact ⟨rfl, rfl⟩))
    (fun os started H enc _ => lifted os started H enc)
theorem card : Rows.IpcpoptBackCardSaid :=
  Claim7.holds_tied_plain_at .later [] [.data, .data, .data, .sentinel, .sentinel, .funcs] true (true, "2e819af1eb192db8d361021fa5c7e7cc191a9469bc042f861a887633448af2ea") true
    over (fun _ h => by cases h) (by kernel_rfl) (fun _ h => by cases h) ipcpoptBack_row_tie rfl ⟨rfl, rfl⟩ (by kernel_rfl) rfl
    (fun f fn hf hfn => by
      obtain rfl : f = 4 := Option.some.inj ((show Tryd.prog.funcNamed "halyard/halyardlaw10.IpcpoptBack" = some 4 by kernel_rfl).symm.trans hf) |>.symm
      obtain rfl : fn = Tryd.f4 := (Option.some.inj (Tryd.func4.symm.trans hfn)).symm
      exact ⟨by kernel_rfl, fun j t ht => by
        rw [Tryd.params4] at ht
        have hm : t ∈ [30, 22, 22, 9] := by simpa using Array.mem_of_getElem? ht
        have hall : ([30, 22, 22, 9].all fun u => !Tryd.prog.wantsStandIn u) = true := by kernel_rfl
        exact (show Tryd.prog.wantsStandIn t = false by simpa using List.all_eq_true.1 hall t hm)⟩)
    (by kernel_rfl)
#print axioms card
end Go.Proofs.YtemddnccomeibaaDoor.ipcpoptBack
namespace Go.Proofs.YtemddnccomeibaaDoor
/-- The card, under a short name, for the claim. -/
theorem ipcpoptBack_card : Rows.IpcpoptBackCardSaid := ipcpoptBack.card
end Go.Proofs.YtemddnccomeibaaDoor
