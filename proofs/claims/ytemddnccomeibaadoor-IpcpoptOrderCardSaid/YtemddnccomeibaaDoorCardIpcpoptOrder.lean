/- The law halyardlaw10.IpcpoptOrder: the row, and its tied card. -/
import Derived.Test.YtemddnccomeibaaDoorHO
import Derived.Test.YtemddnccomeibaaDoorHIpC
import Derived.Test.YtemddnccomeibaaDoorHIpO
import Derived.Test.YtemddnccomeibaaDoorCards
import Derived.Test.YtemddnccomeibaaDoorTie
import Derived.WalkKit
import Derived.ProofKit
import Derived.OpenShut
import Derived.ShutString
import Derived.ChangeOld
import Derived.Below
import Derived.SizedLaws
import Derived.Lib.SmallJoins
import Derived.SevenTiedAt
namespace Go.Proofs.YtemddnccomeibaaDoor.ipcpoptOrder
open Go.ChangeShapes Go.WideShapes Go.ChangeAt Go.RowKit Go.Joins Go.Proofs.YtemddnccomeibaaDoorHIp
open Go.ChangeMaps (open_string shut_string)
set_option linter.unusedVariables false
open Go.Proofs.YtemddnccomeibaaDoorHO Go.Proofs.YtemddnccomeibaaDoorW.PrintWords Go.Proofs.YtemddnccomeibaaDoor.PG10
theorem opU8 : Opens Tryd.prog 5 (Kd.int .u8) (fun n : Int => (Lit.int .u8 n).wf = true) := opens_int Tryd.underlying5 (by kernel_rfl)
theorem opStr : Opens Tryd.prog 9 Kd.string (fun s : ByteArray => s.size ≤ 140737488351232) := opens_string Tryd.underlying9 (by kernel_rfl)
set_option maxRecDepth 100000 in
theorem opOpt : Opens Tryd.prog 38 k38 (fun x : S38 => (Lit.int .u8 x.f0).wf = true ∧ x.f1.size ≤ 140737488351232) := opens_struct (d := (Kd.pair (Kd.int .u8) Kd.string)) (I := (fun x_ : (Int × ByteArray) => (Lit.int .u8 x_.1).wf = true ∧ x_.2.size ≤ 140737488351232)) (fun x : S38 => (x.f0, x.f1)) (fun y => ⟨y.1, y.2⟩) (fun _ => rfl) Tryd.underlying38 (by kernel_rfl) (opensFs_cons (d := (Kd.int .u8)) (d' := Kd.string) (I := (fun n : Int => (Lit.int .u8 n).wf = true)) (I' := (fun s : ByteArray => s.size ≤ 140737488351232)) (by rfl) opU8 (opensFs_one (d := Kd.string) (I := (fun s : ByteArray => s.size ≤ 140737488351232)) (by rfl) opStr))
theorem opOpts : Opens Tryd.prog 31 (Kd.slice 38 k38) (fun xs => xs.length ≤ maxLen ∧ xs.length * Tryd.prog.bytesOf 38 ≤ 140737488351232 ∧ ∀ x ∈ xs, (Lit.int .u8 x.f0).wf = true ∧ x.f1.size ≤ 140737488351232) := opens_slice Tryd.underlying31 (by kernel_rfl) opOpt
set_option maxRecDepth 100000 in
theorem lifted (os : Os) (started : os.Started) (H : Type) (enc : TypeId × Value → H) :
    ReturnsInHanded {} Tryd.checked os 6 .any (fun w args => (Rows.ipcpoptOrderSpec.pre enc Tryd.prog Tryd.f6 [] false w args ∧ laidMetH Tryd.prog laidL w) ∧ sizedMet enc Tryd.prog Tryd.f6 (OpenSpec.ofChange Rows.ipcpoptOrderSpec) false w args) (Rows.ipcpoptOrderSpec.post enc Tryd.prog Tryd.f6 false true false false) := by
  refine handed_and_shaped (C := Tryd.checked) (X := fun w _ => laidMetH Tryd.prog laidL w) (fun _ _ _ hh h => h.of_heap hh) own started (by kernel_rfl) Tryd.func6
    (ChangeSpec.witness_shaped (enc := enc) (C := Tryd.checked) (os := os) (X := fun w _ => laidMetH Tryd.prog laidL w) false (World.doorLaid Tryd.prog 70 os) #[.slice none 0 0, .int .u8 0, .int .u8 0, .agg #[.int .u8 0, .string ByteArray.empty], .int .u8 0] 8 rfl (World.shaped_of_RefB (by kernel_rfl) (by kernel_rfl)) (by kernel_rfl) (by kernel_rfl) (by kernel_rfl) (door_met os _)) ?_
  intro W base args ds gs before hval0 hW hsz0 hL hS _
  have hsz : (DataW.weightsEach Tryd.prog (Tryd.f6.params.toList ++ Rows.ipcpoptOrderSpec.plain.varTypes Tryd.prog) (ds ++ gs)).all (· ≤ reachBytes) = true := hsz0
  have hval : ∀ (j : Nat) t v, Tryd.f6.params[j]? = some t → args[j]? = some v → Value.okWide Tryd.prog W .any base t v := hval0
  have hW' := hW
  obtain ⟨p, q, hA0, hV, rfl, hfz, hnd⟩ := hW
  have hA : DataW.TrodAll enc Tryd.prog W 0 (fun _ => true) true Tryd.f6.params.toList args.toList ds p := hA0
  rw [Tryd.params6] at hA hval hsz
  obtain ⟨v0, vs0, d0, ds0, p0, q0, hargs, rfl, rfl, h0, r0⟩ := trodAll_cons hA
  obtain ⟨v1, vs1, d1, ds1, p1, q1, rfl, rfl, rfl, h1, r1⟩ := trodAll_cons r0
  obtain ⟨v2, vs2, d2, ds2, p2, q2, rfl, rfl, rfl, h2, r2⟩ := trodAll_cons r1
  obtain ⟨v3, vs3, d3, ds3, p3, q3, rfl, rfl, rfl, h3, r3⟩ := trodAll_cons r2
  obtain ⟨v4, vs4, d4, ds4, p4, q4, rfl, rfl, rfl, h4, r4⟩ := trodAll_cons r3
  obtain ⟨rfl, rfl, rfl⟩ := trodAll_nil r4
  obtain rfl : args = #[v0, v1, v2, v3, v4] := by cases args; simp_all
  obtain ⟨rfl, rfl⟩ := trodVars_none hV
  have HV := of_laid hL hS
  have k0 := h0
  have lt0 : ∀ x ∈ p0, x.block < W.heap.size := by obtain ⟨m, hm⟩ := k0; exact DataW.trod_lt m _ _ _ hm
  obtain ⟨l0, hK0, hI0⟩ := opened opOpts h0 hsz (j := 0) rfl rfl
  obtain ⟨A0, n0, c0, rfl⟩ := okWide_slice Tryd.underlying31 (hval 0 31 v0 rfl rfl)
  obtain ⟨A'0, c'0, hcs0, hc0, hr0⟩ := hK0
  simp only [Value.cells, List.cons.injEq, and_true, Value.slice.injEq] at hcs0
  obtain ⟨rfl, rfl, rfl⟩ := hcs0
  have k1 := h1
  have lt1 : ∀ x ∈ p1, x.block < W.heap.size := by obtain ⟨m, hm⟩ := k1; exact DataW.trod_lt m _ _ _ hm
  obtain ⟨a1, rfl, rfl, rfl, w1⟩ := open_int Tryd.underlying5 (hval 1 5 v1 rfl rfl) h1
  have b1 : 0 ≤ a1 ∧ a1 ≤ 255 := by have h := w1; simp only [Lit.wf, Bool.and_eq_true, decide_eq_true_eq] at h; exact h
  have k2 := h2
  have lt2 : ∀ x ∈ p2, x.block < W.heap.size := by obtain ⟨m, hm⟩ := k2; exact DataW.trod_lt m _ _ _ hm
  obtain ⟨a2, rfl, rfl, rfl, w2⟩ := open_int Tryd.underlying5 (hval 2 5 v2 rfl rfl) h2
  have b2 : 0 ≤ a2 ∧ a2 ≤ 255 := by have h := w2; simp only [Lit.wf, Bool.and_eq_true, decide_eq_true_eq] at h; exact h
  have k3 := h3
  have lt3 : ∀ x ∈ p3, x.block < W.heap.size := by obtain ⟨m, hm⟩ := k3; exact DataW.trod_lt m _ _ _ hm
  have hC3 : Tryd.prog.cellsOf 38 = 2 := by kernel_rfl
  obtain ⟨oc0, oc1, oz0, oz1, om, rfl, rfl, rfl, ohz0, ohz1⟩ := open_agg2 Tryd.underlying38 (by kernel_rfl) hC3 (hval 3 38 v3 rfl rfl) h3
  obtain ⟨ox0, oe0, rfl, ow0⟩ := DataW.trod_int Tryd.underlying5 ohz0
  obtain rfl : oc0 = .int .u8 ox0 := by simpa using oe0
  obtain ⟨ox1, oe1, rfl, oy1⟩ := DataW.trod_string Tryd.underlying9 ohz1
  obtain rfl : oc1 = .string ox1 := by simpa using oe1
  have ow1 : ox1.size ≤ 140737488351232 := by
    have z := List.all_eq_true.1 hsz _ (DataW.weights_mem_each (j := 3) (t := 38) rfl rfl ox1.data.toList.length (by simp [DataW.weights, DataW.weightsEach, Tryd.underlying38]))
    rw [Array.length_toList] at z
    exact of_decide_eq_true z
  have k4 := h4
  have lt4 : ∀ x ∈ p4, x.block < W.heap.size := by obtain ⟨m, hm⟩ := k4; exact DataW.trod_lt m _ _ _ hm
  obtain ⟨a4, rfl, rfl, rfl, w4⟩ := open_int Tryd.underlying5 (hval 4 5 v4 rfl rfl) h4
  have b4 : 0 ≤ a4 ∧ a4 ≤ 255 := by have h := w4; simp only [Lit.wf, Bool.and_eq_true, decide_eq_true_eq] at h; exact h
  clear hA0 hval0 hsz0 hsz
  refine (IpcpoptOrder_run A0 c0 l0 a1 a2 ⟨ox0, ox1⟩ a4 W HV hr0 hc0 (fun x hx => (hI0.2.2 x hx).2) b1.1 (by omega) b2.1 (by omega) ow1 b4.1 (by omega)).mono fun e W' ⟨he, bel⟩ => ?_
  subst he
  exact ⟨_, rfl, _, _, _, [], _, [], hW', trodAll_mk1 (shut_bool Tryd.underlying4 _), (trodAll_cons_mk (Below.trod laidOut (by kernel_rfl) (of_decide_eq_true (by kernel_rfl)) k0 bel lt0) (trodAll_cons_mk (shut_int Tryd.underlying5 w1) (trodAll_cons_mk (shut_int Tryd.underlying5 w2) (trodAll_cons_mk (Below.trod laidOut (by kernel_rfl) (of_decide_eq_true (by kernel_rfl)) k3 bel lt3) (trodAll_cons_mk (shut_int Tryd.underlying5 w4) trodAll_mk0))))), rfl, bel.frame _, fun h => by cases h⟩
theorem over : Rows.ipcpoptOrderRow.holds Tryd.pinned (OpenSpec.ofChange Rows.ipcpoptOrderSpec) :=
  OpenClaim.holds_of_wide 6 Tryd.f6 rfl rfl rfl rfl rfl rfl rfl ⟨rfl, rfl, rfl, rfl, rfl⟩ rfl rfl rfl rfl rfl (by kernel_rfl) Tryd.func6 (by kernel_rfl)
    (of_decide_eq_true (by kernel_rfl)) (by unfold Func.isWrapper; first | (rw [if_pos (by decide +kernel)]; kernel_rfl) | (rw [if_neg (by decide +kernel)]; exact ⟨rfl, rfl⟩))
    (fun os started H enc _ => lifted os started H enc)
theorem card : Rows.IpcpoptOrderCardSaid :=
  Claim7.holds_tied_plain_at .later [] [.data, .data, .data, .sentinel, .sentinel, .funcs] true (true, "2e819af1eb192db8d361021fa5c7e7cc191a9469bc042f861a887633448af2ea") true
    over (fun _ h => by cases h) (by kernel_rfl) (fun _ h => by cases h) ipcpoptOrder_row_tie rfl ⟨rfl, rfl⟩ (by kernel_rfl) rfl
    (fun f fn hf hfn => by
      obtain rfl : f = 6 := Option.some.inj ((show Tryd.prog.funcNamed "halyard/halyardlaw10.IpcpoptOrder" = some 6 by kernel_rfl).symm.trans hf) |>.symm
      obtain rfl : fn = Tryd.f6 := (Option.some.inj (Tryd.func6.symm.trans hfn)).symm
      exact ⟨by kernel_rfl, fun j t ht => by
        rw [Tryd.params6] at ht
        have hm : t ∈ [31, 5, 5, 38, 5] := by simpa using Array.mem_of_getElem? ht
        have hall : ([31, 5, 5, 38, 5].all fun u => !Tryd.prog.wantsStandIn u) = true := by kernel_rfl
        exact (show Tryd.prog.wantsStandIn t = false by simpa using List.all_eq_true.1 hall t hm)⟩)
    (by kernel_rfl)
#print axioms card
end Go.Proofs.YtemddnccomeibaaDoor.ipcpoptOrder
namespace Go.Proofs.YtemddnccomeibaaDoor
/-- The card, under a short name, for the claim. -/
theorem ipcpoptOrder_card : Rows.IpcpoptOrderCardSaid := ipcpoptOrder.card
end Go.Proofs.YtemddnccomeibaaDoor
