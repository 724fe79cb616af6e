/- The law halyardlaw10.IpcpoptTells: the row, and its tied card. -/
import Derived.Test.YtemddnccomeibaaDoorHA6
import Derived.Test.YtemddnccomeibaaDoorHO
import Derived.Test.YtemddnccomeibaaDoorHIpC
import Derived.Test.YtemddnccomeibaaDoorHIpT
import Derived.Test.YtemddnccomeibaaDoorCards
import Derived.Test.YtemddnccomeibaaDoorTie
import Derived.WalkKit
import Derived.ProofKit
import Derived.OpenShut
import Derived.ShutString
import Derived.ChangeOld
import Derived.Below
import Derived.SizedLaws
import Derived.Lib.SmallJoins
import Derived.SevenTiedAt
namespace Go.Proofs.YtemddnccomeibaaDoor.ipcpoptTells
open Go.ChangeShapes Go.WideShapes Go.ChangeAt Go.RowKit Go.Joins Go.Proofs.YtemddnccomeibaaDoorHIp
open Go.ChangeMaps (open_string shut_string)
open Go.Proofs.YtemddnccomeibaaDoorHA6
set_option linter.unusedVariables false
open Go.Proofs.YtemddnccomeibaaDoorHO Go.Proofs.YtemddnccomeibaaDoorW.PrintWords Go.Proofs.YtemddnccomeibaaDoor.PG10
theorem opU8 : Opens Tryd.prog 5 (Kd.int .u8) (fun n : Int => (Lit.int .u8 n).wf = true) := opens_int Tryd.underlying5 (by kernel_rfl)
theorem opStr : Opens Tryd.prog 9 Kd.string (fun s : ByteArray => s.size ≤ 140737488351232) := opens_string Tryd.underlying9 (by kernel_rfl)
set_option maxRecDepth 100000 in
theorem opOpt : Opens Tryd.prog 38 k38 (fun x : S38 => (Lit.int .u8 x.f0).wf = true ∧ x.f1.size ≤ 140737488351232) := opens_struct (d := (Kd.pair (Kd.int .u8) Kd.string)) (I := (fun x_ : (Int × ByteArray) => (Lit.int .u8 x_.1).wf = true ∧ x_.2.size ≤ 140737488351232)) (fun x : S38 => (x.f0, x.f1)) (fun y => ⟨y.1, y.2⟩) (fun _ => rfl) Tryd.underlying38 (by kernel_rfl) (opensFs_cons (d := (Kd.int .u8)) (d' := Kd.string) (I := (fun n : Int => (Lit.int .u8 n).wf = true)) (I' := (fun s : ByteArray => s.size ≤ 140737488351232)) (by rfl) opU8 (opensFs_one (d := Kd.string) (I := (fun s : ByteArray => s.size ≤ 140737488351232)) (by rfl) opStr))
theorem opOpts : Opens Tryd.prog 31 (Kd.slice 38 k38) (fun xs => xs.length ≤ maxLen ∧ xs.length * Tryd.prog.bytesOf 38 ≤ 140737488351232 ∧ ∀ x ∈ xs, (Lit.int .u8 x.f0).wf = true ∧ x.f1.size ≤ 140737488351232) := opens_slice Tryd.underlying31 (by kernel_rfl) opOpt
set_option maxRecDepth 100000 in
theorem lifted (os : Os) (started : os.Started) (H : Type) (enc : TypeId × Value → H) :
    ReturnsInHanded {} Tryd.checked os 5 .any (fun w args => (Rows.ipcpoptTellsSpec.pre enc Tryd.prog Tryd.f5 [] false w args ∧ laidMetH Tryd.prog laidL w) ∧ sizedMet enc Tryd.prog Tryd.f5 (OpenSpec.ofChange Rows.ipcpoptTellsSpec) false w args) (Rows.ipcpoptTellsSpec.post enc Tryd.prog Tryd.f5 false true false false) := by
  refine handed_and_shaped (C := Tryd.checked) (X := fun w _ => laidMetH Tryd.prog laidL w) (fun _ _ _ hh h => h.of_heap hh) own started (by kernel_rfl) Tryd.func5
    (ChangeSpec.witness_shaped (enc := enc) (C := Tryd.checked) (os := os) (X := fun w _ => laidMetH Tryd.prog laidL w) false (World.doorLaid Tryd.prog 70 os) #[.agg #[.bool false, .int .u32 0, .bool false, .int .u32 0, .bool false, .int .u32 0], .slice none 0 0, .agg #[.int .u8 0, .string ByteArray.empty]] 8 rfl (World.shaped_of_RefB (by kernel_rfl) (by kernel_rfl)) (by kernel_rfl) (by kernel_rfl) (by kernel_rfl) (door_met os _)) ?_
  intro W base args ds gs before hval0 hW hsz0 hL hS _
  have hsz : (DataW.weightsEach Tryd.prog (Tryd.f5.params.toList ++ Rows.ipcpoptTellsSpec.plain.varTypes Tryd.prog) (ds ++ gs)).all (· ≤ reachBytes) = true := hsz0
  have hval : ∀ (j : Nat) t v, Tryd.f5.params[j]? = some t → args[j]? = some v → Value.okWide Tryd.prog W .any base t v := hval0
  have hW' := hW
  obtain ⟨p, q, hA0, hV, rfl, hfz, hnd⟩ := hW
  have hA : DataW.TrodAll enc Tryd.prog W 0 (fun _ => true) true Tryd.f5.params.toList args.toList ds p := hA0
  rw [Tryd.params5] at hA hval hsz
  obtain ⟨v0, vs0, d0, ds0, p0, q0, hargs, rfl, rfl, h0, r0⟩ := trodAll_cons hA
  obtain ⟨v1, vs1, d1, ds1, p1, q1, rfl, rfl, rfl, h1, r1⟩ := trodAll_cons r0
  obtain ⟨v2, vs2, d2, ds2, p2, q2, rfl, rfl, rfl, h2, r2⟩ := trodAll_cons r1
  obtain ⟨rfl, rfl, rfl⟩ := trodAll_nil r2
  obtain rfl : args = #[v0, v1, v2] := by cases args; simp_all
  obtain ⟨rfl, rfl⟩ := trodVars_none hV
  have HV := of_laid hL hS
  have k0 := h0
  have lt0 : ∀ x ∈ p0, x.block < W.heap.size := by obtain ⟨m, hm⟩ := k0; exact DataW.trod_lt m _ _ _ hm
  have hC : Tryd.prog.cellsOf 30 = 6 := by kernel_rfl
  obtain ⟨c0, c1, c2, c3, c4, c5, z0, z1, z2, z3, z4, z5, m0, rfl, rfl, rfl, hz0, hz1, hz2, hz3, hz4, hz5⟩ := open_agg6 Tryd.underlying30 (by kernel_rfl) hC (hval 0 30 v0 rfl rfl) h0
  obtain ⟨x0, e0, rfl⟩ := DataW.trod_bool Tryd.underlying4 hz0
  obtain rfl : c0 = .bool x0 := by simpa using e0
  obtain ⟨x1, e1, rfl, u1⟩ := DataW.trod_int Tryd.underlying22 hz1
  obtain rfl : c1 = .int .u32 x1 := by simpa using e1
  have n1 : 0 ≤ x1 ∧ x1 ≤ 4294967295 := by have h := u1; simp only [Lit.wf, Bool.and_eq_true, decide_eq_true_eq] at h; exact h
  obtain ⟨x2, e2, rfl⟩ := DataW.trod_bool Tryd.underlying4 hz2
  obtain rfl : c2 = .bool x2 := by simpa using e2
  obtain ⟨x3, e3, rfl, u3⟩ := DataW.trod_int Tryd.underlying22 hz3
  obtain rfl : c3 = .int .u32 x3 := by simpa using e3
  have n3 : 0 ≤ x3 ∧ x3 ≤ 4294967295 := by have h := u3; simp only [Lit.wf, Bool.and_eq_true, decide_eq_true_eq] at h; exact h
  obtain ⟨x4, e4, rfl⟩ := DataW.trod_bool Tryd.underlying4 hz4
  obtain rfl : c4 = .bool x4 := by simpa using e4
  obtain ⟨x5, e5, rfl, u5⟩ := DataW.trod_int Tryd.underlying22 hz5
  obtain rfl : c5 = .int .u32 x5 := by simpa using e5
  have n5 : 0 ≤ x5 ∧ x5 ≤ 4294967295 := by have h := u5; simp only [Lit.wf, Bool.and_eq_true, decide_eq_true_eq] at h; exact h
  have k1 := h1
  have lt1 : ∀ x ∈ p1, x.block < W.heap.size := by obtain ⟨m, hm⟩ := k1; exact DataW.trod_lt m _ _ _ hm
  obtain ⟨l1, hK1, hI1⟩ := opened opOpts h1 hsz (j := 1) rfl rfl
  obtain ⟨A1, n1, c1, rfl⟩ := okWide_slice Tryd.underlying31 (hval 1 31 v1 rfl rfl)
  obtain ⟨A'1, c'1, hcs1, hc1, hr1⟩ := hK1
  simp only [Value.cells, List.cons.injEq, and_true, Value.slice.injEq] at hcs1
  obtain ⟨rfl, rfl, rfl⟩ := hcs1
  have k2 := h2
  have lt2 : ∀ x ∈ p2, x.block < W.heap.size := by obtain ⟨m, hm⟩ := k2; exact DataW.trod_lt m _ _ _ hm
  have hC2 : Tryd.prog.cellsOf 38 = 2 := by kernel_rfl
  obtain ⟨oc0, oc1, oz0, oz1, om, rfl, rfl, rfl, ohz0, ohz1⟩ := open_agg2 Tryd.underlying38 (by kernel_rfl) hC2 (hval 2 38 v2 rfl rfl) h2
  obtain ⟨ox0, oe0, rfl, ow0⟩ := DataW.trod_int Tryd.underlying5 ohz0
  obtain rfl : oc0 = .int .u8 ox0 := by simpa using oe0
  obtain ⟨ox1, oe1, rfl, oy1⟩ := DataW.trod_string Tryd.underlying9 ohz1
  obtain rfl : oc1 = .string ox1 := by simpa using oe1
  have ow1 : ox1.size ≤ 140737488351232 := by
    have z := List.all_eq_true.1 hsz _ (DataW.weights_mem_each (j := 2) (t := 38) rfl rfl ox1.data.toList.length (by simp [DataW.weights, DataW.weightsEach, Tryd.underlying38]))
    rw [Array.length_toList] at z
    exact of_decide_eq_true z
  clear hA0 hval0 hsz0 hsz
  refine (IpcpoptTells_run ⟨x0, x1, x2, x3, x4, x5⟩ ⟨n1.1, Int.lt_of_le_of_lt n1.2 (by decide), n3.1, Int.lt_of_le_of_lt n3.2 (by decide), n5.1, Int.lt_of_le_of_lt n5.2 (by decide)⟩ A1 c1 l1 ⟨ox0, ox1⟩ W HV hr1 hc1 (fun x hx => (hI1.2.2 x hx).2) ow1).mono fun e W' ⟨he, bel⟩ => ?_
  subst he
  exact ⟨_, rfl, _, _, _, [], _, [], hW', trodAll_mk1 (shut_bool Tryd.underlying4 _), (trodAll_cons_mk (Below.trod laidOut (by kernel_rfl) (of_decide_eq_true (by kernel_rfl)) k0 bel lt0) (trodAll_cons_mk (Below.trod laidOut (by kernel_rfl) (of_decide_eq_true (by kernel_rfl)) k1 bel lt1) (trodAll_cons_mk (Below.trod laidOut (by kernel_rfl) (of_decide_eq_true (by kernel_rfl)) k2 bel lt2) trodAll_mk0))), rfl, bel.frame _, fun h => by cases h⟩
theorem over : Rows.ipcpoptTellsRow.holds Tryd.pinned (OpenSpec.ofChange Rows.ipcpoptTellsSpec) :=
  OpenClaim.holds_of_wide 5 Tryd.f5 rfl rfl rfl rfl rfl rfl rfl ⟨rfl, rfl, rfl, rfl, rfl⟩ rfl rfl rfl rfl rfl (by kernel_rfl) Tryd.func5 (by kernel_rfl)
    (of_decide_eq_true (by kernel_rfl)) (by unfold Func.isWrapper; first | (rw [if_pos (by decide +kernel)]; kernel_rfl) | (rw [if_neg (by decide +kernel)]; exact ⟨rfl, rfl⟩))
    (fun os started H enc _ => lifted os started H enc)
theorem card : Rows.IpcpoptTellsCardSaid :=
  Claim7.holds_tied_plain_at .later [] [.data, .data, .data, .sentinel, .sentinel, .funcs] true (true, "2e819af1eb192db8d361021fa5c7e7cc191a9469bc042f861a887633448af2ea") true
    over (fun _ h => by cases h) (by kernel_rfl) (fun _ h => by cases h) ipcpoptTells_row_tie rfl ⟨rfl, rfl⟩ (by kernel_rfl) rfl
    (fun f fn hf hfn => by
      obtain rfl : f = 5 := Option.some.inj ((show Tryd.prog.funcNamed "halyard/halyardlaw10.IpcpoptTells" = some 5 by kernel_rfl).symm.trans hf) |>.symm
      obtain rfl : fn = Tryd.f5 := (Option.some.inj (Tryd.func5.symm.trans hfn)).symm
      exact ⟨by kernel_rfl, fun j t ht => by
        rw [Tryd.params5] at ht
        have hm : t ∈ [30, 31, 38] := by simpa using Array.mem_of_getElem? ht
        have hall : ([30, 31, 38].all fun u => !Tryd.prog.wantsStandIn u) = true := by kernel_rfl
        exact (show Tryd.prog.wantsStandIn t = false by simpa using List.all_eq_true.1 hall t hm)⟩)
    (by kernel_rfl)
#print axioms card
end Go.Proofs.YtemddnccomeibaaDoor.ipcpoptTells
namespace Go.Proofs.YtemddnccomeibaaDoor
/-- The card, under a short name, for the claim. -/
theorem ipcpoptTells_card : Rows.IpcpoptTellsCardSaid := ipcpoptTells.card
end Go.Proofs.YtemddnccomeibaaDoor
