/- ipcpopt: an address is read. -/
import Derived.Test.YtemddnccomeibaaDoorHIp2
import Derived.Test.YtemddnccomeibaaDoorHG
namespace Go.Proofs.YtemddnccomeibaaDoorHIp
open Go.RowKit Go.Lib Go.Proofs.YtemddnccomeibaaDoorW.PrintWords Go.Proofs.YtemddnccomeibaaDoorHW Go.Proofs.YtemddnccomeibaaDoorHG Go.Proofs.YtemddnccomeibaaDoor.PG10
set_option linter.unusedVariables false
set_option linter.unusedSimpArgs false
theorem bytes_below (w : World) (e : TypeId) (s : ByteArray) : Below w.heap.size w (Lib.bytesWorld w e s) :=
  ⟨by simp [Lib.bytesWorld, World.freeze, World.alloc, World.drew, -World.alloc_eq, -World.drew_eq], by simp [Lib.bytesWorld, World.freeze, World.alloc, World.drew, -World.alloc_eq, -World.drew_eq], by simp [Lib.bytesWorld, World.freeze, World.alloc, World.drew, -World.alloc_eq, -World.drew_eq], by rw [Lib.bytesWorld_size]; omega, fun k hk => Lib.bytesWorld_at_old w e s k hk⟩
/-- What ParseUint answers, whatever the error. -/
def pU8 (t : ByteArray) : Int := match Lib.parseUintB 8 t.data.toList with | .ok u => (u : Int) | .range => 255 | _ => 0
theorem parse_le : ∀ (l : List UInt8) (acc u : Nat), acc ≤ 255 → Lib.parseUintM 255 acc l = .ok u → u ≤ 255
  | [], acc, u, h, e => by unfold Lib.parseUintM at e; cases e; exact h
  | c :: l, acc, u, h, e => by
    unfold Lib.parseUintM at e
    split at e
    · split at e
      · exact absurd e (by simp)
      · split at e
        · exact absurd e (by simp)
        · exact parse_le l _ u (by omega) e
    · exact absurd e (by simp)
theorem pU8_range (t : ByteArray) : 0 ≤ pU8 t ∧ pU8 t < 256 := by
  unfold pU8
  cases h : Lib.parseUintB 8 t.data.toList with
  | ok u =>
    unfold Lib.parseUintB at h
    split at h
    · exact absurd h (by simp)
    · have := parse_le _ _ _ (by omega) h
      show 0 ≤ (u : Int) ∧ (u : Int) < 256
      omega
  | range => exact ⟨by decide, by decide⟩
  | _ => exact ⟨by decide, by decide⟩
theorem ParseU (t : ByteArray) (ht : t.size ≤ 1000) (w : World) (hv : VarsAt w) : Calls Tryd.prog 23 #[.string t, .int .i64 10, .int .i64 8] w fun e w' => ∃ ev, e = .returned (.tuple #[.int .u64 (pU8 t), ev]) ∧ Below w.heap.size w w' := by
  unfold pU8
  cases h : Lib.parseUintB 8 t.data.toList with
  | ok u =>
    refine (Tryd.strconv_ParseUint_10_at8_ok t (by omega) u h w).mono fun e w' ⟨he, hw⟩ => ⟨_, he, ?_⟩
    rcases hw with rfl | rfl
    · exact Below.refl _ _
    · exact bytes_below w _ t
  | range =>
    obtain ⟨te, pe, h2⟩ := hv.rng
    exact (Tryd.strconv_ParseUint_10_at8_range_var t (by omega) h te pe w h2).mono fun e w' ⟨N, he, _, _, hb⟩ => ⟨_, he, hb⟩
  | _ =>
    obtain ⟨te, pe, h2⟩ := hv.syn
    exact (Tryd.strconv_ParseUint_10_at8_syntax_var t (by omega) h te pe w h2).mono fun e w' ⟨N, he, _, _, hb⟩ => ⟨_, he, hb⟩
def cutT (s : ByteArray) : ByteArray := ⟨(Lib.cut s.data.toList [46]).1.toArray⟩
def cutR (s : ByteArray) : ByteArray := ⟨(Lib.cut s.data.toList [46]).2.1.toArray⟩
theorem cut_size (s : ByteArray) : (cutT s).size ≤ s.size ∧ (cutR s).size ≤ s.size := by
  unfold cutT cutR Lib.cut
  have e : s.size = s.data.toList.length := (Array.length_toList).symm
  rw [e]
  generalize s.data.toList = l
  generalize Lib.index l [46] = i
  split
  · show (l.take i.toNat).toArray.size ≤ _ ∧ (l.drop (i.toNat + 1)).toArray.size ≤ _
    rw [List.size_toArray, List.size_toArray, List.length_take, List.length_drop]
    omega
  · show l.toArray.size ≤ _ ∧ 0 ≤ _
    rw [List.size_toArray]
    omega
theorem Cut (s : ByteArray) (hs : s.size ≤ 1000) (w : World) (hv : VarsAt w) : Calls Tryd.prog 22 #[.string s, .string ⟨#[46]⟩] w fun e w' => ∃ b, e = .returned (.tuple #[.string (cutT s), .string (cutR s), .bool b]) ∧ Below w.heap.size w w' := by
  obtain ⟨m, hm⟩ := hv.mx
  exact (Tryd.strings_Cut s ⟨#[46]⟩ m w (by omega) hm).mono fun e w' ⟨he, n, hw⟩ => ⟨_, he, by subst hw; exact pw_below_drewN (Below.refl _ _) n⟩
def StrAt (w : World) (B : Nat) (s : ByteArray) : Prop := w.heap[B]? = some (.cells #[.string s] 9 (0, 0))
theorem StrAt.below {w w' : World} {B : Nat} {s : ByteArray} (h : StrAt w B s) (hb : Below w.heap.size w w') : StrAt w' B s := hw_below h hb
theorem set_other' {w : World} {p : Addr} {v : Value} {g : Nat} (h : g ≠ p.block) : (w.setCell p v).heap[g]? = w.heap[g]? := Below.heap_setCell _ _ _ _ h
theorem KB_set {g k : Nat} {w w5 : World} (h : Below w.heap.size w w5) (v : Value) : KB g w (w5.setCell ⟨g, k, none⟩ v) := by
  have h0 := (Below.refl 0 w5).setCell (p := ⟨g, k, none⟩) (Nat.zero_le _) v
  exact ⟨h0.os.trans h.os, h0.tape.trans h.tape, h0.output.trans h.output, Nat.le_trans h.size h0.size, fun j hj hne => (set_other' (w := w5) (p := ⟨g, k, none⟩) (v := v) (g := j) (fun e => hne e)).trans (h.block j hj)⟩
set_option maxRecDepth 100000 in
set_option maxHeartbeats 1000000 in
theorem Next (B : Nat) (s : ByteArray) (hs : s.size ≤ 1000) (w : World) (hv : VarsAt w) (h : StrAt w B s) :
    Calls Tryd.prog 21 #[.pointer (some ⟨B, 0, none⟩)] w fun e w' => e = .returned (.string (cutT s)) ∧ StrAt w' B (cutR s) ∧ KB B w w' := by
  have HV := Aside0.mk hv
  have HS := Aside0.mk h
  have c0 := blk_cell h 0
  simp only [List.getElem?_toArray, List.getElem?_cons_zero] at c0
  clear hv h
  go_enter Tryd.func21, Tryd.ntmps21
  go_wp2_with (go_at_call 22; go_must (refine (Cut s hs _ HV.out).mono ?_); go_must (rintro e w1 ⟨b, rfl, hb⟩; have HB := Aside0.mk hb; have HS1 := Aside0.mk (HS.out.below hb); have c1 := blk_cell HS1.out 0; have fz := blk_frozen HS1.out 0; have zl := blk_lt HS1.out; simp only [List.getElem?_toArray, List.getElem?_cons_zero] at c1); clear hb)
  go_ret
  exact ⟨rfl, (blk_set HS1.out 0 _).trans rfl, KB_set HB.out _⟩
/-- What the program reads of a text. -/
def rd1 (s : ByteArray) : Int := pU8 (cutT s)
def readA (s : ByteArray) : Int := ((rd1 s * 256 + rd1 (cutR s)) * 256 + rd1 (cutR (cutR s))) * 256 + rd1 (cutR (cutR (cutR s)))
def readK (s : ByteArray) : Int × Int := if textB (readA s) = s then (readA s, 0) else (0, 7)
theorem StrAt.kb {w w' : World} {B b : Nat} {s : ByteArray} (h : StrAt w B s) (hk : KB b w w') (hne : B ≠ b) : StrAt w' B s := KB.block hk h hne
theorem ParseIs (t : ByteArray) (n : Int) (hn : pU8 t = n) (ht : t.size ≤ 1000) (w : World) (hv : VarsAt w) : Calls Tryd.prog 23 #[.string t, .int .i64 10, .int .i64 8] w fun e w' => ∃ ev, e = .returned (.tuple #[.int .u64 n, ev]) ∧ Below w.heap.size w w' := by
  subst hn; exact ParseU t ht w hv
theorem NextIs (B : Nat) (s t r : ByteArray) (e1 : cutT s = t) (e2 : cutR s = r) (hs : s.size ≤ 1000) (w : World) (hv : VarsAt w) (h : StrAt w B s) :
    Calls Tryd.prog 21 #[.pointer (some ⟨B, 0, none⟩)] w fun e w' => e = .returned (.string t) ∧ StrAt w' B r ∧ KB B w w' := by
  subst e1 e2; exact Next B s hs w hv h
theorem or_byte (v n : Int) (h0 : 0 ≤ v) (h1 : v < 16777216) (n0 : 0 ≤ n) (n1 : n < 256) : Go.bits .or .u32 (v * 256) n = v * 256 + n := by
  have q := Go.bits_join .u32 32 (by decide) (fun n h0 h1 => by rw [IntKind.wrap_u32]; omega) 8 (v * 256) n (by omega) (by omega) (by omega) (by omega) (by omega) (by omega)
  exact q
theorem TextIs (a : Int) (r : ByteArray) (hr : textB a = r) (h0 : 0 ≤ a) (h1 : a < 4294967296) (w : World) (hv : VarsAt w) :
    Calls Tryd.prog 10 #[.int .u32 a] w fun e w' => e = .returned (.string r) ∧ Below w.heap.size w w' := by
  subst hr; exact Text a h0 h1 w hv
theorem str_eqs {s t : ByteArray} (h : s = t) : (s.toList == t.toList) = true ∧ (t.toList == s.toList) = true := by subst h; exact ⟨beq_self_eq_true _, beq_self_eq_true _⟩
theorem str_nes {s t : ByteArray} (h : ¬ s = t) : (s.toList == t.toList) = false ∧ (t.toList == s.toList) = false :=
  ⟨by rw [beq_eq_false_iff_ne]; exact fun e => h (hw_toList_inj e), by rw [beq_eq_false_iff_ne]; exact fun e => h (hw_toList_inj e).symm⟩
set_option maxRecDepth 100000 in
set_option maxHeartbeats 2000000 in
theorem Read (s : ByteArray) (hs : s.size ≤ 100) (w : World) (hv : VarsAt w) :
    Calls Tryd.prog 8 #[.string s] w fun e w' => e = .returned (.tuple #[.int .u32 (readK s).1, .int .i64 (readK s).2]) ∧ Below w.heap.size w w' := by
  have HV := Aside0.mk hv
  have HB := Aside0.mk (Below.refl w.heap.size w)
  have z0 := cut_size s
  have z1 := cut_size (cutR s)
  have z2 := cut_size (cutR (cutR s))
  have z3 := cut_size (cutR (cutR (cutR s)))
  have HS := Aside0.mk (show StrAt (w.alloc (.cells #[.string s] 9)) w.heap.size s from blk_new w _)
  replace HB := Aside0.mk (below_alloc HB.out (.cells #[.string s] 9))
  obtain ⟨t0, e0⟩ : ∃ t, cutT s = t := ⟨_, rfl⟩
  obtain ⟨s1, f0⟩ : ∃ t, cutR s = t := ⟨_, rfl⟩
  rw [f0] at z0 z1 z2 z3
  obtain ⟨t1, e1⟩ : ∃ t, cutT s1 = t := ⟨_, rfl⟩
  obtain ⟨s2, f1⟩ : ∃ t, cutR s1 = t := ⟨_, rfl⟩
  rw [f1] at z1 z2 z3
  obtain ⟨t2, e2⟩ : ∃ t, cutT s2 = t := ⟨_, rfl⟩
  obtain ⟨s3, f2⟩ : ∃ t, cutR s2 = t := ⟨_, rfl⟩
  rw [f2] at z2 z3
  obtain ⟨t3, e3⟩ : ∃ t, cutT s3 = t := ⟨_, rfl⟩
  obtain ⟨s4, f3⟩ : ∃ t, cutR s3 = t := ⟨_, rfl⟩
  rw [e0] at z0
  rw [e1] at z1
  rw [e2] at z2
  rw [e3, f3] at z3
  obtain ⟨n0, g0⟩ : ∃ n, pU8 t0 = n := ⟨_, rfl⟩
  obtain ⟨n1, g1⟩ : ∃ n, pU8 t1 = n := ⟨_, rfl⟩
  obtain ⟨n2, g2⟩ : ∃ n, pU8 t2 = n := ⟨_, rfl⟩
  obtain ⟨n3, g3⟩ : ∃ n, pU8 t3 = n := ⟨_, rfl⟩
  have r0 := pU8_range t0
  have r1 := pU8_range t1
  have r2 := pU8_range t2
  have r3 := pU8_range t3
  rw [g0] at r0
  rw [g1] at r1
  rw [g2] at r2
  rw [g3] at r3
  obtain ⟨v1, hv1⟩ : ∃ v, v = n0 * 256 + n1 := ⟨_, rfl⟩
  obtain ⟨v2, hv2⟩ : ∃ v, v = v1 * 256 + n2 := ⟨_, rfl⟩
  obtain ⟨v3, hv3⟩ : ∃ v, v = v2 * 256 + n3 := ⟨_, rfl⟩
  have HA := Aside0.mk (show readA s = v3 by unfold readA rd1; rw [e0, f0, e1, f1, e2, f2, e3, g0, g1, g2, g3, hv3, hv2, hv1])
  have m0 : n0 % 4294967296 = n0 := by omega
  have m1 : n1 % 4294967296 = n1 := by omega
  have m2 : n2 % 4294967296 = n2 := by omega
  have m3 : n3 % 4294967296 = n3 := by omega
  have b0 : Go.bits .or .u32 0 n0 = n0 := by have := or_byte 0 n0 (by omega) (by omega) r0.1 r0.2; simpa using this
  have b1 : Go.bits .or .u32 (n0 * 256) n1 = v1 := by rw [or_byte n0 n1 (by omega) (by omega) r1.1 r1.2, hv1]
  have b2 : Go.bits .or .u32 (v1 * 256) n2 = v2 := by rw [or_byte v1 n2 (by omega) (by omega) r2.1 r2.2, hv2]
  have b3 : Go.bits .or .u32 (v2 * 256) n3 = v3 := by rw [or_byte v2 n3 (by omega) (by omega) r3.1 r3.2, hv3]
  have w0 : n0 * 256 % 4294967296 = n0 * 256 := by omega
  have w1 : v1 * 256 % 4294967296 = v1 * 256 := by omega
  have w2 : v2 * 256 % 4294967296 = v2 * 256 := by omega
  have y0 : 0 ≤ v3 := by omega
  have y1 : v3 < 4294967296 := by omega
  have E0 := Aside0.mk e0
  have E1 := Aside0.mk e1
  have E2 := Aside0.mk e2
  have E3 := Aside0.mk e3
  have F0 := Aside0.mk f0
  have F1 := Aside0.mk f1
  have F2 := Aside0.mk f2
  have F3 := Aside0.mk f3
  have G0 := Aside0.mk g0
  have G1 := Aside0.mk g1
  have G2 := Aside0.mk g2
  have G3 := Aside0.mk g3
  clear hv e0 e1 e2 e3 f0 f1 f2 f3 g0 g1 g2 g3 hv1 hv2 hv3
  obtain ⟨r, hr⟩ : ∃ r, textB v3 = r := ⟨_, rfl⟩
  have HR := Aside0.mk hr
  clear hr
  by_cases c : r = s
  · obtain ⟨q1, q2⟩ := str_eqs c
    have HK := Aside0.mk (show readK s = (v3, 0) by unfold readK; rw [HA.out, HR.out, if_pos c])
    clear c
    go_enter Tryd.func8, Tryd.ntmps8
    go_wp2_with fail
    refine wp_loop_rounds 5 ?_
    rw [rounds_succ]
    go_wp2_with (first | (go_at_call 21; go_must (refine (NextIs w.heap.size s t0 s1 E0.out F0.out (by omega) _ (VarsAt.below HV.out HB.out) HS.out).mono ?_); go_must (rintro e wj ⟨rfl, hS, hk⟩; replace HS := Aside0.mk hS; replace HB := Aside0.mk (KB.to_below HB.out hk (Nat.le_refl _) HB.out.size)); clear hS hk) | (go_at_call 23; go_must (refine (ParseIs t0 n0 G0.out (by omega) _ (VarsAt.below HV.out HB.out)).mono ?_); go_must (rintro e wj ⟨ev, rfl, hb⟩; replace HS := Aside0.mk (HS.out.below hb); replace HB := Aside0.mk (below_step HB.out hb)); clear hb))
    rw [rounds_succ]
    go_wp2_with (first | (go_at_call 21; go_must (refine (NextIs w.heap.size s1 t1 s2 E1.out F1.out (by omega) _ (VarsAt.below HV.out HB.out) HS.out).mono ?_); go_must (rintro e wj ⟨rfl, hS, hk⟩; replace HS := Aside0.mk hS; replace HB := Aside0.mk (KB.to_below HB.out hk (Nat.le_refl _) HB.out.size)); clear hS hk) | (go_at_call 23; go_must (refine (ParseIs t1 n1 G1.out (by omega) _ (VarsAt.below HV.out HB.out)).mono ?_); go_must (rintro e wj ⟨ev, rfl, hb⟩; replace HS := Aside0.mk (HS.out.below hb); replace HB := Aside0.mk (below_step HB.out hb)); clear hb))
    rw [rounds_succ]
    go_wp2_with (first | (go_at_call 21; go_must (refine (NextIs w.heap.size s2 t2 s3 E2.out F2.out (by omega) _ (VarsAt.below HV.out HB.out) HS.out).mono ?_); go_must (rintro e wj ⟨rfl, hS, hk⟩; replace HS := Aside0.mk hS; replace HB := Aside0.mk (KB.to_below HB.out hk (Nat.le_refl _) HB.out.size)); clear hS hk) | (go_at_call 23; go_must (refine (ParseIs t2 n2 G2.out (by omega) _ (VarsAt.below HV.out HB.out)).mono ?_); go_must (rintro e wj ⟨ev, rfl, hb⟩; replace HS := Aside0.mk (HS.out.below hb); replace HB := Aside0.mk (below_step HB.out hb)); clear hb))
    rw [rounds_succ]
    go_wp2_with (first | (go_at_call 21; go_must (refine (NextIs w.heap.size s3 t3 s4 E3.out F3.out (by omega) _ (VarsAt.below HV.out HB.out) HS.out).mono ?_); go_must (rintro e wj ⟨rfl, hS, hk⟩; replace HS := Aside0.mk hS; replace HB := Aside0.mk (KB.to_below HB.out hk (Nat.le_refl _) HB.out.size)); clear hS hk) | (go_at_call 23; go_must (refine (ParseIs t3 n3 G3.out (by omega) _ (VarsAt.below HV.out HB.out)).mono ?_); go_must (rintro e wj ⟨ev, rfl, hb⟩; replace HS := Aside0.mk (HS.out.below hb); replace HB := Aside0.mk (below_step HB.out hb)); clear hb))
    rw [rounds_succ]
    go_wp2_with (go_at_call 10; go_must (refine (TextIs v3 r HR.out y0 y1 _ (VarsAt.below HV.out HB.out)).mono ?_); go_must (rintro e wj ⟨rfl, hb⟩; replace HB := Aside0.mk (below_step HB.out hb)); clear hb)
    first | go_ret | go_ret2 | go_ret3
    exact ⟨by rw [HK.out]; rfl, HB.out⟩
  · obtain ⟨q1, q2⟩ := str_nes c
    have HK := Aside0.mk (show readK s = (0, 7) by unfold readK; rw [HA.out, HR.out, if_neg c])
    clear c
    go_enter Tryd.func8, Tryd.ntmps8
    go_wp2_with fail
    refine wp_loop_rounds 5 ?_
    rw [rounds_succ]
    go_wp2_with (first | (go_at_call 21; go_must (refine (NextIs w.heap.size s t0 s1 E0.out F0.out (by omega) _ (VarsAt.below HV.out HB.out) HS.out).mono ?_); go_must (rintro e wj ⟨rfl, hS, hk⟩; replace HS := Aside0.mk hS; replace HB := Aside0.mk (KB.to_below HB.out hk (Nat.le_refl _) HB.out.size)); clear hS hk) | (go_at_call 23; go_must (refine (ParseIs t0 n0 G0.out (by omega) _ (VarsAt.below HV.out HB.out)).mono ?_); go_must (rintro e wj ⟨ev, rfl, hb⟩; replace HS := Aside0.mk (HS.out.below hb); replace HB := Aside0.mk (below_step HB.out hb)); clear hb))
    rw [rounds_succ]
    go_wp2_with (first | (go_at_call 21; go_must (refine (NextIs w.heap.size s1 t1 s2 E1.out F1.out (by omega) _ (VarsAt.below HV.out HB.out) HS.out).mono ?_); go_must (rintro e wj ⟨rfl, hS, hk⟩; replace HS := Aside0.mk hS; replace HB := Aside0.mk (KB.to_below HB.out hk (Nat.le_refl _) HB.out.size)); clear hS hk) | (go_at_call 23; go_must (refine (ParseIs t1 n1 G1.out (by omega) _ (VarsAt.below HV.out HB.out)).mono ?_); go_must (rintro e wj ⟨ev, rfl, hb⟩; replace HS := Aside0.mk (HS.out.below hb); replace HB := Aside0.mk (below_step HB.out hb)); clear hb))
    rw [rounds_succ]
    go_wp2_with (first | (go_at_call 21; go_must (refine (NextIs w.heap.size s2 t2 s3 E2.out F2.out (by omega) _ (VarsAt.below HV.out HB.out) HS.out).mono ?_); go_must (rintro e wj ⟨rfl, hS, hk⟩; replace HS := Aside0.mk hS; replace HB := Aside0.mk (KB.to_below HB.out hk (Nat.le_refl _) HB.out.size)); clear hS hk) | (go_at_call 23; go_must (refine (ParseIs t2 n2 G2.out (by omega) _ (VarsAt.below HV.out HB.out)).mono ?_); go_must (rintro e wj ⟨ev, rfl, hb⟩; replace HS := Aside0.mk (HS.out.below hb); replace HB := Aside0.mk (below_step HB.out hb)); clear hb))
    rw [rounds_succ]
    go_wp2_with (first | (go_at_call 21; go_must (refine (NextIs w.heap.size s3 t3 s4 E3.out F3.out (by omega) _ (VarsAt.below HV.out HB.out) HS.out).mono ?_); go_must (rintro e wj ⟨rfl, hS, hk⟩; replace HS := Aside0.mk hS; replace HB := Aside0.mk (KB.to_below HB.out hk (Nat.le_refl _) HB.out.size)); clear hS hk) | (go_at_call 23; go_must (refine (ParseIs t3 n3 G3.out (by omega) _ (VarsAt.below HV.out HB.out)).mono ?_); go_must (rintro e wj ⟨ev, rfl, hb⟩; replace HS := Aside0.mk (HS.out.below hb); replace HB := Aside0.mk (below_step HB.out hb)); clear hb))
    rw [rounds_succ]
    go_wp2_with (go_at_call 10; go_must (refine (TextIs v3 r HR.out y0 y1 _ (VarsAt.below HV.out HB.out)).mono ?_); go_must (rintro e wj ⟨rfl, hb⟩; replace HB := Aside0.mk (below_step HB.out hb)); clear hb)
    first | go_ret | go_ret2 | go_ret3
    exact ⟨by rw [HK.out]; rfl, HB.out⟩
end Go.Proofs.YtemddnccomeibaaDoorHIp
