/- ipcpopt: IpcpoptOrder's walk. -/
import Derived.Test.YtemddnccomeibaaDoorHIpT
import Derived.Test.YtemddnccomeibaaDoorHIpP
import Derived.Deep.DeepCutAuto
import Derived.Deep.RegionLaw
import Derived.Deep.QuietTactic
import Derived.BigQuiet
namespace Go.Proofs.YtemddnccomeibaaDoorHIp
open Go.RowKit Go.Proofs.YtemddnccomeibaaDoorW.PrintWords Go.Proofs.YtemddnccomeibaaDoorHW Go.Proofs.YtemddnccomeibaaDoorHG Go.Proofs.YtemddnccomeibaaDoor.PG10
set_option linter.unusedVariables false
set_option linter.unusedSimpArgs false
/-- Get, as its result and how many odd ones there are. -/
theorem GetN (A0 : Option Addr) (c0 n : Nat) (l : List Op) (x : Ip) (m : Nat) (k : Int) (h : (getK l).1 = x ∧ (getK l).2.1.length = m ∧ (getK l).2.2 = k) (hnl : l.length = n) (w : World) (hv : VarsAt w) (hr : Kd.C k38 w A0 n l) (hc : n ≤ c0) (hl : n ≤ 100000) (hn : ∀ x ∈ l, x.f1.size ≤ 140737488351232) :
    Calls Tryd.prog 13 #[.slice A0 n c0] w fun e w' => ∃ A c, e = .returned (.tuple #[.agg #[.bool x.h0, .int .u32 x.a0, .bool x.h1, .int .u32 x.a1, .bool x.h2, .int .u32 x.a2], .slice A m c, .int .i64 k]) ∧ m ≤ c ∧ Below w.heap.size w w' := by
  subst hnl
  obtain ⟨rfl, rfl, rfl⟩ := h
  exact (GetIs A0 c0 l _ _ _ rfl w hv hr hc hl hn).mono fun e w' ⟨A, c, he, h1, _, hb⟩ => ⟨A, c, he, h1, hb⟩
theorem K_M {W : World} (base : Nat) (okp : Nat → Prop) (x : Op) (cs : List Value) (h : k38.K W x cs) : k38.M W base okp x cs := by
  rw [k38_open h]
  exact k38_mkM _ _ _ x
section
variable {W : World} {ops : Array Oper} {o : Oper} {rest : List Oper} {a : Act} {Q : Exit → Act → World → Prop}
/-- append(nil, l...): a row of the call's own. -/
theorem wp_copyR (hgd : o.guard = none) (s x : Operand) (ho : o.op = .call { callee := .builtin .append, args := #[s, x], argTypes := #[31, 31] })
    (A : Option Addr) (c n : Nat) (l : List Op) (hs : a.eval s = .slice none 0 0) (hx : a.eval x = .slice A n c) (HC : Kd.C k38 W A n l) (hl : n ≤ 100000)
    (h : ∀ v1 w1, k38.R 38 w1 W.heap.size (fun k => W.heap.size ≤ k) v1 l → Below W.heap.size W w1 → wpList Tryd.prog ops Q rest (a.put o.dst v1) w1) : wpList Tryd.prog ops Q (o :: rest) a W :=
  Kd.R_append_rows k38 (Rr := k38.K W) (w0 := W) W.heap.size hgd s x 31 38 (.agg #[.int .u8 0, .string ⟨#[]⟩]) 24 ho Tryd.underlying31 info38 rfl (show 0 < 2 by decide) (show 0 < 24 by decide) (.slice none 0 0) [] l A n c (fun k => W.heap.size ≤ k) (fun _ => False) hs hx
    (Kd.R_nil _ _ _ _ _) HC (fun x cs h => K_M _ _ x cs h) (fun _ h => h.elim) (fun _ h => h) (Below.refl _ _) (Nat.le_refl _) (by simp; omega) (fun v1 w1 h1 h2 _ _ => h v1 w1 (by simpa using h1) h2)
/-- m[i] = q. -/
theorem wp_storeR (hN : o.dst = none) (hgd : o.guard = none) (p x : Operand) (ho : o.op = .store 38 p x) {B n cap : Nat} {ad : Addr} (i : Nat) (l : List Op) (q old : Op)
    (haddr : a.eval p = .pointer (some (ad.add (i * 2)))) (hx : a.eval x = .agg #[.int .u8 q.f0, .string q.f1]) (HO : k38.R 38 W B (fun k => B ≤ k) (.slice (some ad) n cap) l) (hi : l[i]? = some old)
    (h : ∀ w1, k38.R 38 w1 B (fun k => B ≤ k) (.slice (some ad) n cap) (l.set i q) → W.grownBy w1 (some ad.block) → wpList Tryd.prog ops Q rest a w1) : wpList Tryd.prog ops Q (o :: rest) a W := by
  obtain ⟨g, rfl⟩ := Kd.R_head HO
  have hn := (Kd.R_reads' HO).1
  have hil := (List.getElem?_eq_some_iff.1 hi).1
  obtain ⟨ad', e, hcell⟩ := (Kd.R_reads' HO).2.2.2.2 (by omega)
  obtain rfl : (⟨g, 0, none⟩ : Addr) = ad' := Option.some.inj e
  obtain ⟨cs, h1, h2, h3⟩ := hcell i old hi
  refine Kd.R_store k38 (w0 := W) B hN hgd 38 p x ho 38 (g := g) (n := n) (cap := cap) (o' := i * 2) (i : Int) 0 l q (.agg #[.int .u8 q.f0, .string q.f1]) [.int .u8 q.f0, .string q.f1] cs (fun k => B ≤ k) (fun _ => False) ?_ (by show i * 2 = i * 2 + 0; rfl) hx rfl (by kernel_rfl) (by simp [Value.oneCell']) HO (by omega) (by omega) h1 ?_ (Nat.le_refl 2) ?_ (fun _ h => h.elim) (Below.refl _ _) ?_
  · rw [haddr, add_plain]
  · intro j u hj
    have := h3 j u hj
    rw [add_plain] at this
    exact this
  · rw [show (List.take 0 cs ++ [Value.int .u8 q.f0, .string q.f1] ++ List.drop (0 + [Value.int .u8 q.f0, .string q.f1].length) cs) = [Value.int .u8 q.f0, .string q.f1] by
      rw [List.drop_eq_nil_of_le (by rw [h1]; exact Nat.le_refl _)]; simp]
    exact k38_mkM _ _ _ q
  · intro w1 r _ hg
    exact h w1 r hg
end
theorem R_some {W : World} {B n cap : Nat} {ok : Nat → Prop} {A : Option Addr} {l : List Op} (h : k38.R 38 W B ok (.slice A n cap) l) (h0 : 0 < l.length) : ∃ ad, A = some ad := by
  obtain ⟨ad, e, _⟩ := (Kd.R_reads' h).2.2.2.2 h0
  exact ⟨ad, e⟩
theorem R_C {W : World} {B n cap : Nat} {ok : Nat → Prop} {A : Option Addr} {l : List Op} (h : k38.R 38 W B ok (.slice A n cap) l) : Kd.C k38 W A n l ∧ n ≤ cap := by
  obtain ⟨h1, h2, h3⟩ := Kd.R_reads' h
  exact ⟨by rw [h1]; exact h3, h2⟩
theorem R_base2 {W : World} {B n cap : Nat} {ok : Nat → Prop} {ad : Addr} {l : List Op} (h : k38.R 38 W B ok (.slice (some ad) n cap) l) : B ≤ ad.block := ((Kd.R_bound h).1 ad.block (by simp [Value.ownBlock])).2.1
theorem swap_got {l : List Op} {a b : Nat} {p q : Op} {x : Ip} {m : Nat} {e : Int} (h : (getK l).1 = x ∧ (getK l).2.1.length = m ∧ (getK l).2.2 = e) (ha : l[a]? = some p) (hb : l[b]? = some q) :
    (getK (swapL l a b p q)).1 = x ∧ (getK (swapL l a b p q)).2.1.length = m ∧ (getK (swapL l a b p q)).2.2 = e := by
  obtain ⟨h1, h2, h3⟩ := swap_like l a b p q ha hb
  rw [← h1, ← h2, ← h3]
  exact h
theorem iOpt : Tryd.prog.info? 38 = some ((Tryd.prog.info? 38).get (by kernel_rfl)) := by kernel_rfl
theorem iOpt2 : ((Tryd.prog.info? 38).get (by kernel_rfl)).size = 2 := by kernel_rfl
theorem cutD (A0 : Option Addr) (c0 : Nat) (l : List Op) (j : Nat) (hj : j ≤ l.length) (hc : l.length ≤ c0) : ∃ Ad, (∀ W : World, (Instr.slice 31 (.slice A0 l.length c0) (some (.int .i64 (j : Int))) none none).run Tryd.prog W = .ok (.slice Ad (l.length - j) (c0 - j)) W) ∧
    (∀ W : World, Kd.C k38 W A0 l.length l → Kd.C k38 W Ad (l.length - j) (l.drop j)) := by
  refine ⟨if c0 = j then A0 else A0.map (·.add (j * 2)), fun W => ?_, fun W h => ?_⟩
  · have := cut_from 31 38 .i64 Tryd.underlying31 iOpt 2 iOpt2 A0 l.length c0 (j : Int) (by omega) (by omega) W
    rw [Int.toNat_natCast] at this
    exact this
  · have := Kd.C_drop h hj hc
    rw [List.length_drop] at this
    exact this
theorem R_lt {W : World} {B n cap : Nat} {ok : Nat → Prop} {ad : Addr} {l : List Op} (h : k38.R 38 W B ok (.slice (some ad) n cap) l) : ad.block < W.heap.size := by
  have := (Kd.R_bound h).1 ad.block (by simp [Value.ownBlock])
  exact this.2.2.1
set_option maxRecDepth 100000 in
set_option maxHeartbeats 8000000 in
theorem Order_long (A0 : Option Addr) (c0 : Nat) (l : List Op) (i k : Int) (q : Op) (at_ : Int) (w : World) (hv : VarsAt w) (hr : Kd.C k38 w A0 l.length l) (hc : l.length ≤ c0) (hn : ∀ x ∈ l, x.f1.size ≤ 140737488351232) (hi0 : 0 ≤ i) (hi1 : i ≤ 255) (hk0 : 0 ≤ k) (hk1 : k ≤ 255) (hq : q.f1.size ≤ 140737488351232) (ha0 : 0 ≤ at_) (ha1 : at_ ≤ 255) (hL : halyardlaw08_Long.f 81 l = some true) : Calls Tryd.prog 6 #[.slice A0 l.length c0, .int .u8 i, .int .u8 k, .agg #[.int .u8 q.f0, .string q.f1], .int .u8 at_] w (AliveRet w) := by
  have HV := Aside0.mk hv
  have hV : ∀ W, Below w.heap.size w W → VarsAt W := fun W h => HV.out.below h
  have huI := Tryd.underlying30
  have huO := Tryd.underlying38
  have HB := Aside0.mk (below_alloc (Below.refl w.heap.size w) (.cells #[.int .u8 q.f0, .string q.f1] 38))
  have HCl := Aside0.mk (C_alloc hr (.cells #[.int .u8 q.f0, .string q.f1] 38))
  have HO := Aside0.mk (show OpAt (w.alloc (.cells #[.int .u8 q.f0, .string q.f1] 38)) w.heap.size q from blk_new w _)
  have HL := Aside0.mk hL
  have HC := Aside0.mk hc
  have HN := Aside0.mk hn
  have HQ := Aside0.mk hq
  have hr0 := hr
  clear hv hr hL hc hn hq
  go_enter Tryd.func6, Tryd.ntmps6
  go_wp2_with (first
    | (go_at_call 14; go_must (refine (LongIs A0 c0 l _ HL.out _ HCl.out HC.out).mono ?_); go_must (rintro e' wj ⟨rfl, hb⟩; replace HB := Aside0.mk (below_step HB.out hb); replace HCl := Aside0.mk (Kd.C_below HCl.out hb); have HOf := HO.out.below hb; replace HO := Aside0.mk (HOf); clear HOf; (try clear o0 o1 zo); obtain ⟨o0, o1⟩ := HO.out.cells; have zo := blk_lt HO.out); clear hb)
    | (go_at_call 7; go_must (refine (alive _ (hV _ HB.out)).mono ?_); go_must (rintro e' wj ⟨rfl, hb⟩; replace HB := Aside0.mk (below_step HB.out hb)); clear hb))
  first | go_ret | go_ret2 | go_ret3
  exact ⟨rfl, HB.out⟩
set_option maxRecDepth 100000 in
set_option maxHeartbeats 8000000 in
theorem Order_big (A0 : Option Addr) (c0 : Nat) (l : List Op) (i k : Int) (q : Op) (at_ : Int) (w : World) (hv : VarsAt w) (hr : Kd.C k38 w A0 l.length l) (hc : l.length ≤ c0) (hn : ∀ x ∈ l, x.f1.size ≤ 140737488351232) (hi0 : 0 ≤ i) (hi1 : i ≤ 255) (hk0 : 0 ≤ k) (hk1 : k ≤ 255) (hq : q.f1.size ≤ 140737488351232) (ha0 : 0 ≤ at_) (ha1 : at_ ≤ 255) (hL : halyardlaw08_Long.f 81 l = some false) (hz : 300 < q.f1.size) : Calls Tryd.prog 6 #[.slice A0 l.length c0, .int .u8 i, .int .u8 k, .agg #[.int .u8 q.f0, .string q.f1], .int .u8 at_] w (AliveRet w) := by
  have HV := Aside0.mk hv
  have hV : ∀ W, Below w.heap.size w W → VarsAt W := fun W h => HV.out.below h
  have huI := Tryd.underlying30
  have huO := Tryd.underlying38
  have HB := Aside0.mk (below_alloc (Below.refl w.heap.size w) (.cells #[.int .u8 q.f0, .string q.f1] 38))
  have HCl := Aside0.mk (C_alloc hr (.cells #[.int .u8 q.f0, .string q.f1] 38))
  have HO := Aside0.mk (show OpAt (w.alloc (.cells #[.int .u8 q.f0, .string q.f1] 38)) w.heap.size q from blk_new w _)
  have HL := Aside0.mk hL
  have HC := Aside0.mk hc
  have HN := Aside0.mk hn
  have HQ := Aside0.mk hq
  have hr0 := hr
  clear hv hr hL hc hn hq
  have d : decide ((300 : Int) < (q.f1.size : Int)) = true := decide_eq_true (by omega)
  go_enter Tryd.func6, Tryd.ntmps6
  go_wp2_with (first
    | (go_at_call 14; go_must (refine (LongIs A0 c0 l _ HL.out _ HCl.out HC.out).mono ?_); go_must (rintro e' wj ⟨rfl, hb⟩; replace HB := Aside0.mk (below_step HB.out hb); replace HCl := Aside0.mk (Kd.C_below HCl.out hb); have HOf := HO.out.below hb; replace HO := Aside0.mk (HOf); clear HOf; (try clear o0 o1 zo); obtain ⟨o0, o1⟩ := HO.out.cells; have zo := blk_lt HO.out); clear hb)
    | (go_at_call 7; go_must (refine (alive _ (hV _ HB.out)).mono ?_); go_must (rintro e' wj ⟨rfl, hb⟩; replace HB := Aside0.mk (below_step HB.out hb)); clear hb))
  first | go_ret | go_ret2 | go_ret3
  exact ⟨rfl, HB.out⟩
/-- What stands behind the first part. -/
structure Mid (w : World) (A0 : Option Addr) (l : List Op) (q : Op) (bx : Nat) (x : Ip) (W : World) : Prop where
  b : Below w.heap.size w W
  c : Kd.C k38 W A0 l.length l
  o : OpAt W w.heap.size q
  x : IpAt W bx x
set_option maxRecDepth 100000 in
set_option maxHeartbeats 8000000 in
theorem Order_main (A0 : Option Addr) (c0 : Nat) (l : List Op) (i k : Int) (q : Op) (at_ : Int) (w : World) (hv : VarsAt w) (hr : Kd.C k38 w A0 l.length l) (hc : l.length ≤ c0) (hn : ∀ x ∈ l, x.f1.size ≤ 140737488351232) (hi0 : 0 ≤ i) (hi1 : i ≤ 255) (hk0 : 0 ≤ k) (hk1 : k ≤ 255) (hq : q.f1.size ≤ 140737488351232) (ha0 : 0 ≤ at_) (ha1 : at_ ≤ 255) (hL : halyardlaw08_Long.f 81 l = some false) (hz : q.f1.size ≤ 300) (hl : l.length ≤ 70) (x : Ip) (m : Nat) (e0 : Int) (hm70 : m ≤ 70) (hg : (getK l).1 = x ∧ (getK l).2.1.length = m ∧ (getK l).2.2 = e0) : Calls Tryd.prog 6 #[.slice A0 l.length c0, .int .u8 i, .int .u8 k, .agg #[.int .u8 q.f0, .string q.f1], .int .u8 at_] w (AliveRet w) := by
  have HV := Aside0.mk hv
  have hV : ∀ W, Below w.heap.size w W → VarsAt W := fun W h => HV.out.below h
  have huI := Tryd.underlying30
  have huO := Tryd.underlying38
  have HB := Aside0.mk (below_alloc (Below.refl w.heap.size w) (.cells #[.int .u8 q.f0, .string q.f1] 38))
  have HCl := Aside0.mk (C_alloc hr (.cells #[.int .u8 q.f0, .string q.f1] 38))
  have HO := Aside0.mk (show OpAt (w.alloc (.cells #[.int .u8 q.f0, .string q.f1] 38)) w.heap.size q from blk_new w _)
  have HL := Aside0.mk hL
  have HC := Aside0.mk hc
  have HN := Aside0.mk hn
  have HQ := Aside0.mk hq
  have hr0 := hr
  clear hv hr hL hc hn hq
  have d : decide ((300 : Int) < (q.f1.size : Int)) = false := decide_eq_false (by omega)
  have HG := Aside0.mk hg
  clear hg hz
  have HR0 := Aside0.mk hr0; clear hr0
  go_enter Tryd.func6, Tryd.ntmps6
  go_upto_if 43 with (first
    | (go_at_call 14; go_must (refine (LongIs A0 c0 l _ HL.out _ HCl.out HC.out).mono ?_); go_must (rintro e' wj ⟨rfl, hb⟩; replace HB := Aside0.mk (below_step HB.out hb); replace HCl := Aside0.mk (Kd.C_below HCl.out hb); have HOf := HO.out.below hb; replace HO := Aside0.mk (HOf); clear HOf; (try clear o0 o1 zo); obtain ⟨o0, o1⟩ := HO.out.cells; have zo := blk_lt HO.out); clear hb)
    | (go_at_call 13; go_must (refine (GetN A0 c0 l.length l x m e0 HG.out rfl _ (hV _ HB.out) HCl.out HC.out (by omega) HN.out).mono ?_); go_must (rintro e' wg ⟨A1, c1, rfl, hc1, hb⟩; obtain ⟨bx, hbx⟩ : ∃ bx, wg.heap.size = bx := ⟨_, rfl⟩; have HX := Aside0.mk (show IpAt (wg.alloc (.cells #[.bool x.h0, .int .u32 x.a0, .bool x.h1, .int .u32 x.a1, .bool x.h2, .int .u32 x.a2] 30)) bx x from hbx ▸ blk_new wg _); have Hbx := Aside0.mk hbx; clear hbx; replace HB := Aside0.mk (below_alloc (below_step HB.out hb) (.cells #[.bool x.h0, .int .u32 x.a0, .bool x.h1, .int .u32 x.a1, .bool x.h2, .int .u32 x.a2] 30)); replace HCl := Aside0.mk (C_alloc (Kd.C_below HCl.out hb) (.cells #[.bool x.h0, .int .u32 x.a0, .bool x.h1, .int .u32 x.a1, .bool x.h2, .int .u32 x.a2] 30)); have HOf := HO.out.below hb; replace HO := Aside0.mk (show OpAt (wg.alloc (.cells #[.bool x.h0, .int .u32 x.a0, .bool x.h1, .int .u32 x.a1, .bool x.h2, .int .u32 x.a2] 30)) w.heap.size q from blk_alloc HOf _); clear HOf; (try clear o0 o1 zo); obtain ⟨o0, o1⟩ := HO.out.cells; have zo := blk_lt HO.out; (try clear x0 x1 x2 x3 x4 x5 zx); obtain ⟨x0, x1, x2, x3, x4, x5⟩ := HX.out.cells; have zx := blk_lt HX.out); clear hb))
  rw [Hbx.out]
  go_cut [14] (fun v14 wx => Aside0 (Mid w A0 l q bx x wx))
  case first =>
    rcases Nat.eq_zero_or_pos l.length with h0 | h0
    · have dz : decide ((0 : Int) < (l.length : Int)) = false := decide_eq_false (by omega)
      go_wp2_with fail
      go_meet
      exact ⟨⟨HB.out, HCl.out, HO.out, HX.out⟩⟩
    · have dz : decide ((0 : Int) < (l.length : Int)) = true := decide_eq_true (by omega)
      obtain ⟨a, ha⟩ : ∃ a : Nat, i % (l.length : Int) = a := ⟨(i % (l.length : Int)).toNat, by have := Int.emod_nonneg i (b := (l.length : Int)) (by omega); omega⟩
      obtain ⟨b, hb⟩ : ∃ b : Nat, k % (l.length : Int) = b := ⟨(k % (l.length : Int)).toNat, by have := Int.emod_nonneg k (b := (l.length : Int)) (by omega); omega⟩
      have hal : a < l.length := by have := Int.emod_lt_of_pos i (b := (l.length : Int)) (by omega); omega
      have hbl : b < l.length := by have := Int.emod_lt_of_pos k (b := (l.length : Int)) (by omega); omega
      have HA := Aside0.mk ha; have HBB := Aside0.mk hb; clear ha hb
      clear o0 o1 zo x0 x1 x2 x3 x4 x5 zx
      generalize (wg.alloc (.cells #[.bool x.h0, .int .u32 x.a0, .bool x.h1, .int .u32 x.a1, .bool x.h2, .int .u32 x.a2] 30)) = wr at HX HB HCl HO ⊢
      obtain ⟨p, hp⟩ : ∃ p, l[a]? = some p := ⟨_, List.getElem?_eq_getElem hal⟩
      obtain ⟨pb, hpb⟩ : ∃ p, l[b]? = some p := ⟨_, List.getElem?_eq_getElem hbl⟩
      have HP := Aside0.mk hp; have HPB := Aside0.mk hpb; clear hp hpb
      go_upto_region 6 with ((at_builtin; go_must (refine wp_copyR rfl _ _ rfl A0 c0 l.length l rfl rfl HCl.out (by omega) ?_); go_must (intro vm wm hm hb; obtain ⟨Am, cm, rfl, hcm, _⟩ := Kd.R_reads hm; obtain ⟨ad, rfl⟩ := R_some hm h0; have HM := Aside0.mk hm; have HD := Aside0.mk hb); clear hb hm))
      go_quiet (fail)
      rw [HA.out, HBB.out]
      replace HD := Aside0.mk (show Below wr.heap.size wr (wm.drewN nq) from pw_below_drewN HD.out nq)
      replace HM := Aside0.mk (Kd.R_drewN HM.out nq)
      generalize (wm.drewN nq) = wn at HD HM ⊢
      obtain ⟨ad_, ea, qa0, qa1⟩ := at_T38 (R_C HM.out).1 (a : Int) (by omega) (by omega)
      obtain rfl := Option.some.inj ea
      rw [rd_of HP.out, Int.toNat_natCast] at qa0 qa1
      clear ea
      go_upto_region 8 with fail
      have HM7 := Aside0.mk (Kd.R_alloc HM.out (.cells #[.int .u8 p.f0, .string p.f1] 38))
      have HW7 := Aside0.mk (show OpAt (wn.alloc (.cells #[.int .u8 p.f0, .string p.f1] 38)) wn.heap.size p from blk_new wn _)
      have HD7 := Aside0.mk (below_alloc HD.out (.cells #[.int .u8 p.f0, .string p.f1] 38))
      have HZ7 := Aside0.mk (show ad.block < wn.heap.size from R_lt HM.out)
      clear qa0 qa1 HM HD
      generalize hbw : wn.heap.size = bw at HW7 HZ7 ⊢
      generalize (wn.alloc (.cells #[.int .u8 p.f0, .string p.f1] 38)) = w7 at HM7 HW7 HD7 ⊢
      clear hbw
      obtain ⟨ad_, ea, qb0, qb1⟩ := at_T38 (R_C HM7.out).1 (b : Int) (by omega) (by omega)
      obtain rfl := Option.some.inj ea
      rw [rd_of HPB.out, Int.toNat_natCast] at qb0 qb1
      clear ea
      go_upto_region 9 with (refine wp_storeR rfl rfl _ _ rfl a l pb p rfl rfl HM7.out HP.out ?_; intro w8 hm8 hg8; have HM8 := Aside0.mk hm8; have HW8 := Aside0.mk (show OpAt w8 bw p from blk_grown HW7.out hg8 (by intro h; have := Option.some.inj h; have := HZ7.out; omega)); have HD8 := Aside0.mk (HD7.out.grown hg8 HD7.out.size (fun k hk => by obtain rfl := Option.some.inj hk; exact R_base2 HM7.out)); clear hm8 hg8 qb0 qb1)
      obtain ⟨w0_, w1_⟩ := HW8.out.cells
      have zw := blk_lt HW8.out
      clear HM7 HW7 HD7
      go_upto_region 10 with (refine wp_storeR rfl rfl _ _ rfl b (l.set a pb) p ((l.set a pb)[b]'(by rw [List.length_set]; exact hbl)) rfl rfl HM8.out (List.getElem?_eq_getElem _) ?_; intro w9 hm9 hg9; have HM9 := Aside0.mk (show k38.R 38 w9 _ _ _ (swapL l a b p pb) from hm9); have HD9 := Aside0.mk (HD8.out.grown hg9 HD8.out.size (fun k hk => by obtain rfl := Option.some.inj hk; exact R_base2 HM8.out)); clear hm9 hg9)
      clear w0_ w1_ zw HM8 HW8 HD8
      have HGS := Aside0.mk (swap_got HG.out HP.out HPB.out)
      have HNS := Aside0.mk (fun x hx => HN.out x ((swap_perm l a b p pb HP.out HPB.out).mem_iff.1 hx))
      go_upto_region 11 with ((go_at_call 13; go_must (refine (GetN (some ad) cm l.length (swapL l a b p pb) x m e0 HGS.out (by simp [swapL]) _ (hV _ (below_step HB.out HD9.out)) (R_C HM9.out).1 (R_C HM9.out).2 (by omega) HNS.out).mono ?_); go_must (rintro e' w10 ⟨A2, c2, rfl, hc2, hb⟩; have HDA := Aside0.mk (below_alloc (below_step HD9.out hb) (.cells #[.bool x.h0, .int .u32 x.a0, .bool x.h1, .int .u32 x.a1, .bool x.h2, .int .u32 x.a2] 30)); have HXA := Aside0.mk (show IpAt (w10.alloc (.cells #[.bool x.h0, .int .u32 x.a0, .bool x.h1, .int .u32 x.a1, .bool x.h2, .int .u32 x.a2] 30)) bx x from blk_below HX.out HDA.out); have HYA := Aside0.mk (show IpAt (w10.alloc (.cells #[.bool x.h0, .int .u32 x.a0, .bool x.h1, .int .u32 x.a1, .bool x.h2, .int .u32 x.a2] 30)) w10.heap.size x from blk_new w10 _)); clear hb))
      obtain ⟨x0, x1, x2, x3, x4, x5⟩ := HXA.out.cells
      have zx := blk_lt HXA.out
      obtain ⟨y0, y1, y2, y3, y4, y5⟩ := HYA.out.cells
      have zy := blk_lt HYA.out
      go_wp2_with fail
      go_meet
      exact ⟨⟨below_step HB.out HDA.out, Kd.C_below HCl.out HDA.out, blk_below HO.out HDA.out, HXA.out⟩⟩
  case rest =>
    clear HB HCl HO HX o0 o1 zo x0 x1 x2 x3 x4 x5 zx Hbx
    have HB := Aside0.mk hcut.out.b
    have HCl := Aside0.mk hcut.out.c
    have HO := Aside0.mk hcut.out.o
    have HX := Aside0.mk hcut.out.x
    clear hcut
    obtain ⟨o0, o1⟩ := HO.out.cells
    have zo := blk_lt HO.out
    by_cases gq : good q
    · have HD := Aside0.mk (decide_eq_true gq)
      clear gq
      go_wp2_with (first
      | (go_at_call 17; go_must (refine (Good q true HD.out HQ.out _ (hV _ HB.out)).mono ?_); go_must (rintro e' wj ⟨rfl, hb⟩; replace HB := Aside0.mk (below_step HB.out hb)); clear hb)
      | (go_at_call 7; go_must (refine (alive _ (hV _ HB.out)).mono ?_); go_must (rintro e' wj ⟨rfl, hb⟩; replace HB := Aside0.mk (below_step HB.out hb)); clear hb))
      first | go_ret | go_ret2 | go_ret3
      exact ⟨rfl, HB.out⟩
    · have HD := Aside0.mk (decide_eq_false gq)
      have HNG := Aside0.mk gq
      clear gq
      obtain ⟨j, hj⟩ : ∃ j : Nat, at_ % ((l.length : Int) + 1) = j := ⟨(at_ % ((l.length : Int) + 1)).toNat, by have := Int.emod_nonneg at_ (b := (l.length : Int) + 1) (by omega); omega⟩
      have hjl : j ≤ l.length := by have := Int.emod_lt_of_pos at_ (b := (l.length : Int) + 1) (by omega); omega
      have HJ := Aside0.mk hj; clear hj
      go_upto_region 16 with (go_at_call 17; go_must (refine (Good q false HD.out HQ.out _ (hV _ HB.out)).mono ?_); go_must (rintro e' wj ⟨rfl, hb⟩; replace HB := Aside0.mk (below_step HB.out hb); replace HCl := Aside0.mk (Kd.C_below HCl.out hb); have HOf := HO.out.below hb; replace HO := Aside0.mk (HOf); clear HOf; have HXf := HX.out.below hb; replace HX := Aside0.mk (HXf); clear HXf; (try clear o0 o1 zo); obtain ⟨o0, o1⟩ := HO.out.cells; have zo := blk_lt HO.out; (try clear x0 x1 x2 x3 x4 x5 zx); obtain ⟨x0, x1, x2, x3, x4, x5⟩ := HX.out.cells; have zx := blk_lt HX.out); clear hb)
      rw [HJ.out]
      have CT := cut_to 31 38 .i64 Tryd.underlying31 iOpt A0 l.length c0 (j : Int) (by omega) (by omega) HC.out
      rw [Int.toNat_natCast] at CT
      obtain ⟨Ad, CF, hcd⟩ := cutD A0 c0 l j hjl HC.out
      have HCT := Aside0.mk (show ∀ W, Kd.C k38 W A0 l.length l → Kd.C k38 W A0 j (l.take j) from fun W h => by have := Kd.C_take h hjl; rwa [show (l.take j).length = j by rw [List.length_take]; omega] at this)
      have HCD := Aside0.mk hcd; clear hcd
      clear x0 x1 x2 x3 x4 x5 zx
      go_upto_region 17 with (at_builtin; go_must (refine wp_copyR rfl _ _ rfl A0 c0 j (l.take j) rfl rfl (HCT.out _ HCl.out) (by omega) ?_); go_must (intro vm wm hm hb; have HM := Aside0.mk hm; have HB1 := Aside0.mk (show w.heap.size ≤ wj.heap.size ∧ wj.heap.size ≤ wm.heap.size ∧ bx < wj.heap.size from ⟨HB.out.size, hb.size, blk_lt HX.out⟩); replace HB := Aside0.mk (below_step HB.out hb); have HOf := HO.out.below hb; replace HO := Aside0.mk (HOf); clear HOf; have HXf := HX.out.below hb; replace HX := Aside0.mk (HXf); clear HXf; (try clear o0 o1 zo); obtain ⟨o0, o1⟩ := HO.out.cells; have zo := blk_lt HO.out; (try clear x0 x1 x2 x3 x4 x5 zx); obtain ⟨x0, x1, x2, x3, x4, x5⟩ := HX.out.cells; have zx := blk_lt HX.out); clear hb hm)
      clear x0 x1 x2 x3 x4 x5 zx
      generalize wj.heap.size = B1 at HM HB1
      go_region_law (first
        | (refine Kd.R_append_step k38 (w0 := World.drew wm) (W := World.drew wm) B1 (by simp [Region.wanted]) (.tmp 105) (.tmp 107) 31 38 (.agg #[.int .u8 0, .string ⟨#[]⟩]) 24 rfl Tryd.underlying31 info38 rfl (show 0 < 2 by decide) (show 0 < 24 by decide) vm (l.take j) q [.int .u8 q.f0, .string q.f1] (fun k => B1 ≤ k) (fun _ => False) rfl rfl (k38_mkM _ _ _ q) (fun _ h => h.elim) (fun k h => Nat.le_trans HB1.out.2.1 h) (show k38.R 38 (World.drew wm) _ _ _ _ from HM.out) (Below.refl _ _) HB1.out.2.1 (by simp; omega) ?_; intro v1 wa h1 h2 _ _; have HA1 := Aside0.mk h1; have HBa := Aside0.mk (below_weaken (below_drew HB.out) HB1.out.1 h2); have HSa := Aside0.mk (show B1 ≤ wa.heap.size from Nat.le_trans HB1.out.2.1 h2.size); have HXa := Aside0.mk (show IpAt wa bx x from (h2.block bx HB1.out.2.2).trans HX.out); clear h1 h2)
        | (refine Kd.R_append_rows_step k38 (Rr := k38.K wa) (w0 := wa) B1 (by simp [Region.wanted]) (.tmp 108) (.tmp 111) 31 38 (.agg #[.int .u8 0, .string ⟨#[]⟩]) 24 rfl Tryd.underlying31 info38 rfl (show 0 < 2 by decide) (show 0 < 24 by decide) v1 (l.take j ++ [q]) (l.drop j) Ad (l.length - j) (c0 - j) (fun k => B1 ≤ k) (fun _ => False) rfl rfl HA1.out (HCD.out _ (Kd.C_below HR0.out HBa.out)) (fun x cs h => K_M _ _ x cs h) (fun _ h => h.elim) (fun k h => Nat.le_trans HSa.out h) (Below.refl _ _) HSa.out (by simp; omega) ?_; intro v2 wb h1 h2 _ _; have HMb := Aside0.mk h1; have HBb := Aside0.mk (below_weaken HBa.out HB1.out.1 h2); have HXb := Aside0.mk (show IpAt wb bx x from (h2.block bx HB1.out.2.2).trans HXa.out); clear h1 h2 o0 o1 zo))
      obtain ⟨A3, c3, rfl, hc3, _⟩ := Kd.R_reads HMb.out
      obtain ⟨g1, g2, g3⟩ := odd_more l q j HNG.out
      obtain ⟨m2, hm2⟩ : ∃ m2, (getK (l.take j ++ q :: l.drop j)).2.1.length = m2 := ⟨_, rfl⟩
      have HG2 := Aside0.mk (show (getK (l.take j ++ [q] ++ l.drop j)).1 = x ∧ (getK (l.take j ++ [q] ++ l.drop j)).2.1.length = m2 ∧ (getK (l.take j ++ [q] ++ l.drop j)).2.2 = e0 by rw [List.append_assoc, List.singleton_append]; exact ⟨by rw [← g1]; exact HG.out.1, hm2, by rw [← g2]; exact HG.out.2.2⟩)
      have HE := Aside0.mk (show e0 = 0 → m2 = m + 1 from fun h => by rw [← hm2, ← HG.out.2.1]; exact g3 (HG.out.2.2.trans h))
      clear g1 g2 g3 hm2
      have HN2 := Aside0.mk (show ∀ y ∈ l.take j ++ [q] ++ l.drop j, y.f1.size ≤ 140737488351232 from fun y hy => by
        rw [List.mem_append, List.mem_append, List.mem_singleton] at hy
        rcases hy with (hy | rfl) | hy
        · exact HN.out y (List.mem_of_mem_take hy)
        · exact HQ.out
        · exact HN.out y (List.mem_of_mem_drop hy))
      have hln : (l.take j ++ [q] ++ l.drop j).length = l.length + 1 := by simp; omega
      rw [hln] at hc3 ⊢
      have HLN := Aside0.mk hln; clear hln
      go_upto_region 19 with (go_at_call 13; go_must (refine (GetN A3 c3 (l.length + 1) (l.take j ++ [q] ++ l.drop j) x m2 e0 HG2.out HLN.out _ (hV _ HBb.out) (by have := Kd.R_reads' HMb.out; rw [HLN.out] at this; exact this.2.2) hc3 (by omega) HN2.out).mono ?_); go_must (rintro e' wc2 ⟨A4, c4, rfl, hc4, hb⟩; have HXc := Aside0.mk (show IpAt (wc2.alloc (.cells #[.bool x.h0, .int .u32 x.a0, .bool x.h1, .int .u32 x.a1, .bool x.h2, .int .u32 x.a2] 30)) bx x from blk_alloc (blk_below HXb.out hb) _); have HYc := Aside0.mk (show IpAt (wc2.alloc (.cells #[.bool x.h0, .int .u32 x.a0, .bool x.h1, .int .u32 x.a1, .bool x.h2, .int .u32 x.a2] 30)) wc2.heap.size x from blk_new wc2 _); replace HB := Aside0.mk (below_alloc (below_step HBb.out hb) (.cells #[.bool x.h0, .int .u32 x.a0, .bool x.h1, .int .u32 x.a1, .bool x.h2, .int .u32 x.a2] 30))); clear hb)
      obtain ⟨x0, x1, x2, x3, x4, x5⟩ := HXc.out.cells
      have zx := blk_lt HXc.out
      obtain ⟨y0, y1, y2, y3, y4, y5⟩ := HYc.out.cells
      have zy := blk_lt HYc.out
      by_cases he : e0 = 0
      · obtain rfl := HE.out he
        subst he
        clear HE
        go_wp2_with (go_at_call 7; go_must (refine (alive _ (hV _ HB.out)).mono ?_); go_must (rintro e' wj ⟨rfl, hb⟩; replace HB := Aside0.mk (below_step HB.out hb)); clear hb)
        first | go_ret | go_ret2 | go_ret3
        exact ⟨rfl, HB.out⟩
      · clear HE
        have he1 : (e0 == 0) = false := beq_eq_false_iff_ne.2 he
        have he2 : (e0 != 0) = true := by simp [he1, bne]
        go_wp2_with (go_at_call 7; go_must (refine (alive _ (hV _ HB.out)).mono ?_); go_must (rintro e' wj ⟨rfl, hb⟩; replace HB := Aside0.mk (below_step HB.out hb)); clear hb)
        first | go_ret | go_ret2 | go_ret3
        exact ⟨rfl, HB.out⟩
theorem IpcpoptOrder_run (A0 : Option Addr) (c0 : Nat) (l : List Op) (i k : Int) (q : Op) (at_ : Int) (w : World) (hv : VarsAt w) (hr : Kd.C k38 w A0 l.length l) (hc : l.length ≤ c0) (hn : ∀ x ∈ l, x.f1.size ≤ 140737488351232) (hi0 : 0 ≤ i) (hi1 : i ≤ 255) (hk0 : 0 ≤ k) (hk1 : k ≤ 255) (hq : q.f1.size ≤ 140737488351232) (ha0 : 0 ≤ at_) (ha1 : at_ ≤ 255) :
    Calls Tryd.prog 6 #[.slice A0 l.length c0, .int .u8 i, .int .u8 k, .agg #[.int .u8 q.f0, .string q.f1], .int .u8 at_] w (AliveRet w) := by
  obtain ⟨b, hL, hb⟩ := long_of l
  cases b with
  | true => exact Order_long A0 c0 l i k q at_ w hv hr hc hn hi0 hi1 hk0 hk1 hq ha0 ha1 hL
  | false =>
    have hl := hb rfl
    by_cases hz : q.f1.size ≤ 300
    · exact Order_main A0 c0 l i k q at_ w hv hr hc hn hi0 hi1 hk0 hk1 hq ha0 ha1 hL hz hl (getK l).1 (getK l).2.1.length (getK l).2.2 (Nat.le_trans (odd_of l zIp []) (by simpa using hl)) ⟨rfl, rfl, rfl⟩
    · exact Order_big A0 c0 l i k q at_ w hv hr hc hn hi0 hi1 hk0 hk1 hq ha0 ha1 hL (by omega)
end Go.Proofs.YtemddnccomeibaaDoorHIp
