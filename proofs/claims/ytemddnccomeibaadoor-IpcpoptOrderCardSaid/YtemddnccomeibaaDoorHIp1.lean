/- ipcpopt: what the variables hold; an address's text. -/
import Derived.Test.YtemddnccomeibaaDoorShelf
import Derived.Test.YtemddnccomeibaaDoorHW
import Derived.Test.YtemddnccomeibaaDoorPG10x2
import Derived.Test.YtemddnccomeibaaDoorPG10x8
import Derived.WalkSmall
import Derived.Lib.AppendIntMem
import Derived.Outline
namespace Go.Proofs.YtemddnccomeibaaDoorHIp
open Go.RowKit Go.Lib Go.Proofs.YtemddnccomeibaaDoorW.PrintWords Go.Proofs.YtemddnccomeibaaDoorHW Go.Proofs.YtemddnccomeibaaDoor.PG10
set_option linter.unusedVariables false
set_option linter.unusedSimpArgs false
theorem wp_bytes {P : Program} (w : World) {ops : Array Oper} {rest : List Oper} {o : Oper} {a : Act} {Q : Exit → Act → World → Prop}
    (hg : o.guard = none) (x : Operand) (src dst e : TypeId) (hop : o.op = Op.convert src dst x) (hs : P.underlying src = some .string) (hd : P.underlying dst = some (.slice e)) (he : P.underlying e = some (.int .u8)) (s : ByteArray) (hx : a.eval x = .string s)
    (hK : ∀ (w1 : World) (cap : Nat), (∀ j : Nat, j < s.size → w1.cell? ⟨w.heap.size, j, none⟩ = some (.int .u8 (bt s j))) → Below w.heap.size w w1 → w.heap.size < w1.heap.size → wpList P ops Q rest (a.put o.dst (.slice (some ⟨w.heap.size, 0, none⟩) s.size cap)) w1) :
    wpList P ops Q (o :: rest) a w := by
  refine wpList_plain hg fun K' hK' => ?_
  unfold Oper.wp
  simp [execOp, hop, hx, Lib.run_convert_string_bytes w src dst e s hs hd he, Result.andThen]
  refine hK' _ _ (hK _ _ (fun j hj => ?_) ⟨?_, ?_, ?_, ?_, fun k hk => Lib.bytesWorld_at_old w e s k hk⟩ (by rw [Lib.bytesWorld_size]; omega))
  · rw [Lib.bytesWorld_cell w e s j hj]
    unfold bt
    rw [dif_pos (by simpa using hj)]
    simp [List.getD, hj, ByteArray.getElem_eq_getElem_data]
  · simp [Lib.bytesWorld, World.freeze, World.alloc, World.drew, -World.alloc_eq, -World.drew_eq]
  · simp [Lib.bytesWorld, World.freeze, World.alloc, World.drew, -World.alloc_eq, -World.drew_eq]
  · simp [Lib.bytesWorld, World.freeze, World.alloc, World.drew, -World.alloc_eq, -World.drew_eq]
  · rw [Lib.bytesWorld_size]; omega
/-- What the package's variables hold. -/
structure VarsAt (w : World) : Prop where
  tab : Lib.TabIs Tryd.prog w "internal/strconv.uint64pow10" .u64 Lib.pow10Tab
  mx : ∃ m, w.cell? ⟨1, 0, none⟩ = some (.int .i64 m)
  syn : ∃ te pe, w.var? Tryd.prog "strconv.ErrSyntax" = some #[.iface te pe]
  rng : ∃ te pe, w.var? Tryd.prog "strconv.ErrRange" = some #[.iface te pe]
  k0 : w.cell? ⟨0, 0, none⟩ = some (.int .u8 3)
  k1 : w.cell? ⟨0, 1, none⟩ = some (.func (.func 91) #[] #[])
  k2 : w.cell? ⟨0, 2, none⟩ = some (.int .u8 129)
  k3 : w.cell? ⟨0, 3, none⟩ = some (.func (.func 92) #[] #[])
  k4 : w.cell? ⟨0, 4, none⟩ = some (.int .u8 131)
  k5 : w.cell? ⟨0, 5, none⟩ = some (.func (.func 93) #[] #[])
theorem g_kinds : Tryd.prog.globalNamed "halyard/ipcpopt.kinds" = some 0 := by kernel_rfl
theorem g_max : Tryd.prog.globalNamed "internal/bytealg.MaxLen" = some 1 := by kernel_rfl
theorem g_syn : Tryd.prog.globalNamed "strconv.ErrSyntax" = some 2 := by kernel_rfl
theorem g_rng : Tryd.prog.globalNamed "strconv.ErrRange" = some 3 := by kernel_rfl
theorem g_pow : Tryd.prog.globalNamed "internal/strconv.uint64pow10" = some 4 := by kernel_rfl
theorem var_lt {w : World} {n : String} {g : Nat} {cs : Array Value} (hg : Tryd.prog.globalNamed n = some g) (h : w.var? Tryd.prog n = some cs) (h0 : 0 < cs.size) : g < w.heap.size := by
  have z := World.var?_cell hg h 0
  rw [Array.getElem?_eq_getElem h0] at z
  exact World.block_lt_of_cell? w _ z
theorem VarsAt.below {w w' : World} (h : VarsAt w) (hb : Below w.heap.size w w') : VarsAt w' := by
  obtain ⟨tab, ⟨m, mx⟩, ⟨te, pe, syn⟩, ⟨te', pe', rng⟩, k0, k1, k2, k3, k4, k5⟩ := h
  refine ⟨var?_below hb g_pow (var_lt g_pow tab (by simp [Lib.pow10Tab])) tab, ⟨m, pw_cell_below hb mx⟩, ⟨te, pe, var?_below hb g_syn (var_lt g_syn syn (by simp)) syn⟩, ⟨te', pe', var?_below hb g_rng (var_lt g_rng rng (by simp)) rng⟩, pw_cell_below hb k0, pw_cell_below hb k1, pw_cell_below hb k2, pw_cell_below hb k3, pw_cell_below hb k4, pw_cell_below hb k5⟩
/-- A number's digits. -/
def decB (n : Int) : ByteArray := ⟨(Lib.itoa n).toArray⟩
theorem Itoa (n : Int) (h0 : 0 ≤ n) (h1 : n < 256) (w : World) (hv : VarsAt w) : Calls Tryd.prog 25 #[.int .i64 n] w fun e w' => e = .returned (.string (decB n)) ∧ Below w.heap.size w w' :=
  (Tryd.strconv_Itoa n (by omega) (by omega) w hv.tab).mono fun e w' ⟨he, k, os, hw⟩ => ⟨he, by subst hw; exact Lib.below_grow _ w (Nat.le_refl _) k os⟩
def strV (l : List ByteArray) : List Value := l.map Value.string
theorem own_strs {w : World} {B : Nat} {v : Value} {l : List ByteArray} (h : w.ownsRow B 9 1 v l.length (strV l)) :
    ∃ A cap, v = .slice A l.length cap ∧ l.length ≤ cap ∧ Kd.C Kd.string w A l.length l := by
  obtain ⟨h1, h2⟩ := h
  rcases h2 with ⟨rfl, hz⟩ | ⟨g, cap, cur, rfl, hg, hh, r1, r2, r3, r4⟩
  · have e : l = [] := List.eq_nil_of_length_eq_zero hz
    subst e
    exact ⟨none, 0, rfl, Nat.le_refl _, ⟨rfl, by decide, fun h => by simp at h⟩⟩
  · refine ⟨_, cap, rfl, r1, ⟨rfl, by unfold maxLen at r2; omega, fun _ => ⟨_, rfl, fun j p hj => ⟨[.string p], rfl, rfl, fun i u hu => ?_⟩⟩⟩⟩
    have hjl : j < l.length := (List.getElem?_eq_some_iff.1 hj).1
    have hi0 : i = 0 := by have := (List.getElem?_eq_some_iff.1 hu).1; simp at this; exact this
    subst hi0
    have hu' : u = .string p := by simpa using hu.symm
    subst hu'
    have z : (strV l)[j]? = some (.string p) := by unfold strV; rw [List.getElem?_map, hj]; rfl
    rw [← r4, List.getElem?_take_of_lt (by omega), Array.getElem?_toList] at z
    have e : ((⟨g, 0, none⟩ : Addr).add (j * 1 + 0)) = ⟨g, j, none⟩ := by
      unfold Addr.add
      by_cases h0 : j = 0
      · subst h0; simp
      · rw [if_neg (by omega)]; simp
    show w.cell? ((⟨g, 0, none⟩ : Addr).add (j * 1 + 0)) = some _
    rw [e]
    simp only [World.cell?, hh]
    simpa using z
theorem infoS : (Tryd.prog.info? 9).map (fun i => (i.zero, i.size, i.bytes)) = some (some (.string ⟨#[]⟩), 1, 16) := by kernel_rfl
/-- An address's text. -/
def textB (a : Int) : ByteArray := strings_Join.j ⟨#[46]⟩ [decB (a / 16777216 % 256), decB (a / 65536 % 256), decB (a / 256 % 256), decB (a % 256)]
/-- A byte's digits: at most three. -/
theorem dec_all : (List.range 256).all (fun n => decide ((Lib.itoa (n : Int)).length ≤ 3 ∧ 1 ≤ (Lib.itoa (n : Int)).length)) = true := by decide +kernel
theorem dec_size {n : Int} (h0 : 0 ≤ n) (h1 : n < 256) : (decB n).size ≤ 3 ∧ 1 ≤ (decB n).size := by
  have z := List.all_eq_true.1 dec_all n.toNat (List.mem_range.2 (by omega))
  rw [show ((n.toNat : Nat) : Int) = n by omega] at z
  have z := of_decide_eq_true z
  unfold decB
  simpa [ByteArray.size] using z
theorem text_join (x0 x1 x2 x3 : Int) (a0 : 0 ≤ x0 ∧ x0 < 256) (a1 : 0 ≤ x1 ∧ x1 < 256) (a2 : 0 ≤ x2 ∧ x2 < 256) (a3 : 0 ≤ x3 ∧ x3 < 256) : strings_Join.f [decB x0, decB x1, decB x2, decB x3] ⟨#[46]⟩ = some (strings_Join.j ⟨#[46]⟩ [decB x0, decB x1, decB x2, decB x3]) := by
  unfold strings_Join.f
  have d0 := dec_size a0.1 a0.2
  have d1 := dec_size a1.1 a1.2
  have d2 := dec_size a2.1 a2.2
  have d3 := dec_size a3.1 a3.2
  rw [if_pos]
  have z : strings_Join.sum [decB x0, decB x1, decB x2, decB x3] = (decB x0).size + ((decB x1).size + ((decB x2).size + ((decB x3).size + 0))) := rfl
  have z2 : (⟨#[46]⟩ : ByteArray).size = 1 := rfl
  rw [z, z2]
  simp only [List.length_cons, List.length_nil]
  omega
set_option maxRecDepth 100000 in
set_option maxHeartbeats 2000000 in
theorem Text (a : Int) (h0 : 0 ≤ a) (h1 : a < 4294967296) (w : World) (hv : VarsAt w) :
    Calls Tryd.prog 10 #[.int .u32 a] w fun e w' => e = .returned (.string (textB a)) ∧ Below w.heap.size w w' := by
  have HV := Aside0.mk hv
  have HB := Aside0.mk (Below.refl w.heap.size w)
  have HT := Aside0.mk (show textB a = strings_Join.j ⟨#[46]⟩ [decB (a / 16777216 % 256), decB (a / 65536 % 256), decB (a / 256 % 256), decB (a % 256)] from rfl)
  have HP := Aside0.mk (show octet_Put32.f a = some (strOfNums [a / 16777216 % 256, a / 65536 % 256, a / 256 % 256, a % 256]) from rfl)
  have a0 : 0 ≤ a / 16777216 % 256 ∧ a / 16777216 % 256 < 256 := by omega
  have a1 : 0 ≤ a / 65536 % 256 ∧ a / 65536 % 256 < 256 := by omega
  have a2 : 0 ≤ a / 256 % 256 ∧ a / 256 % 256 < 256 := by omega
  have a3 : 0 ≤ a % 256 ∧ a % 256 < 256 := by omega
  generalize a / 16777216 % 256 = x0 at *
  generalize a / 65536 % 256 = x1 at *
  generalize a / 256 % 256 = x2 at *
  generalize a % 256 = x3 at *
  clear hv
  go_enter Tryd.func10, Tryd.ntmps10
  go_wp2_with (first
    | (go_at_call 24; go_must (refine (octet_Put32.calls _ _ _ HP.out).mono ?_); go_must (rintro e w1 ⟨rfl, hb⟩; replace HB := Aside0.mk (below_step HB.out hb)); clear hb)
    | (refine wp_bytes _ rfl _ 9 57 5 rfl Tryd.underlying9 Tryd.underlying57 Tryd.underlying5 _ rfl ?_; intro w2 cap hcl hb1 hlt; replace HB := Aside0.mk (below_step HB.out hb1); clear hb1))
  have HBA := HB
  have HCL := Aside0.mk (show w2.cell? ⟨w1.heap.size, 0, none⟩ = some (.int .u8 x0) ∧ w2.cell? ⟨w1.heap.size, 1, none⟩ = some (.int .u8 x1) ∧ w2.cell? ⟨w1.heap.size, 2, none⟩ = some (.int .u8 x2) ∧ w2.cell? ⟨w1.heap.size, 3, none⟩ = some (.int .u8 x3) from by
    have z : (strOfNums [x0, x1, x2, x3]).size = 4 := hw_strs _
    have e0 : bt (strOfNums [x0, x1, x2, x3]) ((0 : Nat) : Int) = x0 := hw_bt_n _ _ (by simp) (by simpa using a0.1) (by simp; omega)
    have e1 : bt (strOfNums [x0, x1, x2, x3]) ((1 : Nat) : Int) = x1 := hw_bt_n _ _ (by simp) (by simpa using a1.1) (by simp; omega)
    have e2 : bt (strOfNums [x0, x1, x2, x3]) ((2 : Nat) : Int) = x2 := hw_bt_n _ _ (by simp) (by simpa using a2.1) (by simp; omega)
    have e3 : bt (strOfNums [x0, x1, x2, x3]) ((3 : Nat) : Int) = x3 := hw_bt_n _ _ (by simp) (by simpa using a3.1) (by simp; omega)
    refine ⟨?_, ?_, ?_, ?_⟩
    · rw [← e0]; exact hcl 0 (by omega)
    · rw [← e1]; exact hcl 1 (by omega)
    · rw [← e2]; exact hcl 2 (by omega)
    · rw [← e3]; exact hcl 3 (by omega))
  have hs4 : (strOfNums [x0, x1, x2, x3]).size = 4 := hw_strs _
  have HB2 := Aside0.mk (Below.refl w2.heap.size w2)
  have OWN := Aside0.mk (World.ownsRow_nil w2 w2.heap.size 9 1)
  obtain ⟨c0, c1, c2, c3⟩ := HCL.out
  clear hcl
  refine wp_loop_rounds 5 ?_
  rw [rounds_succ]
  go_wp2_with (first
    | (go_at_call 25; go_must (refine (Itoa _ (by omega) (by omega) _ (VarsAt.below HV.out HB.out)).mono ?_); go_must (rintro e wj ⟨rfl, hb⟩; replace OWN := Aside0.mk (pw_own_below OWN.out hb); replace HB := Aside0.mk (below_step HB.out hb); replace HB2 := Aside0.mk (below_step HB2.out hb); clear c0 c1 c2 c3; have c0 := pw_cell_below HB2.out (HCL.out).1; have c1 := pw_cell_below HB2.out (HCL.out).2.1; have c2 := pw_cell_below HB2.out (HCL.out).2.2.1; have c3 := pw_cell_below HB2.out (HCL.out).2.2.2); clear hb)
    | (at_builtin; go_must (refine print_append_cells (w0 := w2) w2.heap.size rfl (.tmp 14) (.tmp 18) 56 9 (.string ⟨#[]⟩) 1 16 rfl Tryd.underlying56 infoS rfl (by decide) (by decide) _ 0 _ [.string (decB x0)] rfl rfl rfl (fun u hu => by simp at hu; subst hu; rfl) OWN.out HB2.out HB2.out.size (by omega) ?_); go_must (intro vj wj own hb gr hat; replace OWN := Aside0.mk own; replace HB := Aside0.mk (below_weaken HBA.out HBA.out.size hb); replace HB2 := Aside0.mk hb; clear c0 c1 c2 c3; have c0 := pw_cell_below HB2.out (HCL.out).1; have c1 := pw_cell_below HB2.out (HCL.out).2.1; have c2 := pw_cell_below HB2.out (HCL.out).2.2.1; have c3 := pw_cell_below HB2.out (HCL.out).2.2.2); clear own hb gr hat))
  rw [rounds_succ]
  go_wp2_with (first
    | (go_at_call 25; go_must (refine (Itoa _ (by omega) (by omega) _ (VarsAt.below HV.out HB.out)).mono ?_); go_must (rintro e wj ⟨rfl, hb⟩; replace OWN := Aside0.mk (pw_own_below OWN.out hb); replace HB := Aside0.mk (below_step HB.out hb); replace HB2 := Aside0.mk (below_step HB2.out hb); clear c0 c1 c2 c3; have c0 := pw_cell_below HB2.out (HCL.out).1; have c1 := pw_cell_below HB2.out (HCL.out).2.1; have c2 := pw_cell_below HB2.out (HCL.out).2.2.1; have c3 := pw_cell_below HB2.out (HCL.out).2.2.2); clear hb)
    | (at_builtin; go_must (refine print_append_cells (w0 := w2) w2.heap.size rfl (.tmp 14) (.tmp 18) 56 9 (.string ⟨#[]⟩) 1 16 rfl Tryd.underlying56 infoS rfl (by decide) (by decide) _ 1 _ [.string (decB x1)] rfl rfl rfl (fun u hu => by simp at hu; subst hu; rfl) OWN.out HB2.out HB2.out.size (by omega) ?_); go_must (intro vj wj own hb gr hat; replace OWN := Aside0.mk own; replace HB := Aside0.mk (below_weaken HBA.out HBA.out.size hb); replace HB2 := Aside0.mk hb; clear c0 c1 c2 c3; have c0 := pw_cell_below HB2.out (HCL.out).1; have c1 := pw_cell_below HB2.out (HCL.out).2.1; have c2 := pw_cell_below HB2.out (HCL.out).2.2.1; have c3 := pw_cell_below HB2.out (HCL.out).2.2.2); clear own hb gr hat))
  rw [rounds_succ]
  go_wp2_with (first
    | (go_at_call 25; go_must (refine (Itoa _ (by omega) (by omega) _ (VarsAt.below HV.out HB.out)).mono ?_); go_must (rintro e wj ⟨rfl, hb⟩; replace OWN := Aside0.mk (pw_own_below OWN.out hb); replace HB := Aside0.mk (below_step HB.out hb); replace HB2 := Aside0.mk (below_step HB2.out hb); clear c0 c1 c2 c3; have c0 := pw_cell_below HB2.out (HCL.out).1; have c1 := pw_cell_below HB2.out (HCL.out).2.1; have c2 := pw_cell_below HB2.out (HCL.out).2.2.1; have c3 := pw_cell_below HB2.out (HCL.out).2.2.2); clear hb)
    | (at_builtin; go_must (refine print_append_cells (w0 := w2) w2.heap.size rfl (.tmp 14) (.tmp 18) 56 9 (.string ⟨#[]⟩) 1 16 rfl Tryd.underlying56 infoS rfl (by decide) (by decide) _ 2 _ [.string (decB x2)] rfl rfl rfl (fun u hu => by simp at hu; subst hu; rfl) OWN.out HB2.out HB2.out.size (by omega) ?_); go_must (intro vj wj own hb gr hat; replace OWN := Aside0.mk own; replace HB := Aside0.mk (below_weaken HBA.out HBA.out.size hb); replace HB2 := Aside0.mk hb; clear c0 c1 c2 c3; have c0 := pw_cell_below HB2.out (HCL.out).1; have c1 := pw_cell_below HB2.out (HCL.out).2.1; have c2 := pw_cell_below HB2.out (HCL.out).2.2.1; have c3 := pw_cell_below HB2.out (HCL.out).2.2.2); clear own hb gr hat))
  rw [rounds_succ]
  go_wp2_with (first
    | (go_at_call 25; go_must (refine (Itoa _ (by omega) (by omega) _ (VarsAt.below HV.out HB.out)).mono ?_); go_must (rintro e wj ⟨rfl, hb⟩; replace OWN := Aside0.mk (pw_own_below OWN.out hb); replace HB := Aside0.mk (below_step HB.out hb); replace HB2 := Aside0.mk (below_step HB2.out hb); clear c0 c1 c2 c3; have c0 := pw_cell_below HB2.out (HCL.out).1; have c1 := pw_cell_below HB2.out (HCL.out).2.1; have c2 := pw_cell_below HB2.out (HCL.out).2.2.1; have c3 := pw_cell_below HB2.out (HCL.out).2.2.2); clear hb)
    | (at_builtin; go_must (refine print_append_cells (w0 := w2) w2.heap.size rfl (.tmp 14) (.tmp 18) 56 9 (.string ⟨#[]⟩) 1 16 rfl Tryd.underlying56 infoS rfl (by decide) (by decide) _ 3 _ [.string (decB x3)] rfl rfl rfl (fun u hu => by simp at hu; subst hu; rfl) OWN.out HB2.out HB2.out.size (by omega) ?_); go_must (intro vj wj own hb gr hat; replace OWN := Aside0.mk own; replace HB := Aside0.mk (below_weaken HBA.out HBA.out.size hb); replace HB2 := Aside0.mk hb; clear c0 c1 c2 c3; have c0 := pw_cell_below HB2.out (HCL.out).1; have c1 := pw_cell_below HB2.out (HCL.out).2.1; have c2 := pw_cell_below HB2.out (HCL.out).2.2.1; have c3 := pw_cell_below HB2.out (HCL.out).2.2.2); clear own hb gr hat))
  obtain ⟨A4, c4, rfl, hc4, hC4⟩ := own_strs (l := [decB x0, decB x1, decB x2, decB x3]) OWN.out
  have HC4 := Aside0.mk hC4
  have HP4 := Aside0.mk hc4
  have HJ := Aside0.mk (text_join x0 x1 x2 x3 a0 a1 a2 a3)
  clear hC4 hc4
  rw [rounds_succ]
  go_wp2_with (go_at_call 26; go_must (refine (strings_Join.calls A4 c4 [decB x0, decB x1, decB x2, decB x3] ⟨#[46]⟩ _ _ HC4.out HP4.out HJ.out).mono ?_); go_must (rintro e w6 ⟨rfl, hb⟩; replace HB := Aside0.mk (below_step HB.out hb)); clear hb)
  go_ret
  exact ⟨congrArg (fun x => Ending.returned (.string x)) HT.out.symm, HB.out⟩
end Go.Proofs.YtemddnccomeibaaDoorHIp
