/- ipcpopt: the document's text of an address; the text's parts. -/
import Derived.Test.YtemddnccomeibaaDoorHIp1
namespace Go.Proofs.YtemddnccomeibaaDoorHIp
open Go.RowKit Go.Lib Go.Proofs.YtemddnccomeibaaDoorW.PrintWords Go.Proofs.YtemddnccomeibaaDoorHW Go.Proofs.YtemddnccomeibaaDoor.PG10
set_option linter.unusedVariables false
set_option linter.unusedSimpArgs false
theorem textB_eq (a : Int) : textB a = ((((((((⟨#[]⟩ : ByteArray) ++ decB (a / 16777216 % 256)) ++ ⟨#[46]⟩) ++ decB (a / 65536 % 256)) ++ ⟨#[46]⟩) ++ decB (a / 256 % 256)) ++ ⟨#[46]⟩) ++ decB (a % 256)) := by
  unfold textB strings_Join.j strings_Join.tl strings_Join.tl strings_Join.tl strings_Join.tl
  apply ByteArray.ext
  simp [ByteArray.append_assoc]
set_option maxRecDepth 100000 in
set_option maxHeartbeats 2000000 in
theorem RefText (a : Int) (h0 : 0 ≤ a) (h1 : a < 4294967296) (w : World) (hv : VarsAt w) :
    Calls Tryd.prog 11 #[.int .u32 a] w fun e w' => e = .returned (.string (textB a)) ∧ Below w.heap.size w w' := by
  have HV := Aside0.mk hv
  have HB := Aside0.mk (Below.refl w.heap.size w)
  have HT := Aside0.mk (textB_eq a)
  have a0 : 0 ≤ a / 16777216 % 256 ∧ a / 16777216 % 256 < 256 := by omega
  have a1 : 0 ≤ a / 65536 % 256 ∧ a / 65536 % 256 < 256 := by omega
  have a2 : 0 ≤ a / 256 % 256 ∧ a / 256 % 256 < 256 := by omega
  have a3 : 0 ≤ a % 256 ∧ a % 256 < 256 := by omega
  have d0 := (dec_size a0.1 a0.2).1
  have d1 := (dec_size a1.1 a1.2).1
  have d2 := (dec_size a2.1 a2.2).1
  have d3 := (dec_size a3.1 a3.2).1
  clear hv
  go_enter Tryd.func11, Tryd.ntmps11
  go_wp2_with fail
  refine wp_loop_rounds 5 ?_
  rw [rounds_succ]
  go_wp2_with (go_at_call 25; go_must (refine (Itoa _ (by omega) (by omega) _ (VarsAt.below HV.out HB.out)).mono ?_); go_must (rintro e wj ⟨rfl, hb⟩; replace HB := Aside0.mk (below_step HB.out hb)); clear hb)
  rw [rounds_succ]
  go_wp2_with (go_at_call 25; go_must (refine (Itoa _ (by omega) (by omega) _ (VarsAt.below HV.out HB.out)).mono ?_); go_must (rintro e wj ⟨rfl, hb⟩; replace HB := Aside0.mk (below_step HB.out hb)); clear hb)
  rw [rounds_succ]
  go_wp2_with (go_at_call 25; go_must (refine (Itoa _ (by omega) (by omega) _ (VarsAt.below HV.out HB.out)).mono ?_); go_must (rintro e wj ⟨rfl, hb⟩; replace HB := Aside0.mk (below_step HB.out hb)); clear hb)
  rw [rounds_succ]
  go_wp2_with (go_at_call 25; go_must (refine (Itoa _ (by omega) (by omega) _ (VarsAt.below HV.out HB.out)).mono ?_); go_must (rintro e wj ⟨rfl, hb⟩; replace HB := Aside0.mk (below_step HB.out hb)); clear hb)
  rw [rounds_succ]
  go_wp2_with fail
  go_ret
  exact ⟨congrArg (fun x => Ending.returned (.string x)) HT.out.symm, HB.out⟩
end Go.Proofs.YtemddnccomeibaaDoorHIp
