/- ipcpopt: the chapter's example; IpcpoptTexts' walk. -/
import Derived.Test.YtemddnccomeibaaDoorHIp6
import Derived.Test.YtemddnccomeibaaDoorPG10x15
import Derived.Deep.RegionHeld3
namespace Go.Proofs.YtemddnccomeibaaDoorHIp
open Go.RowKit Go.Proofs.YtemddnccomeibaaDoorW.PrintWords Go.Proofs.YtemddnccomeibaaDoorHW Go.Proofs.YtemddnccomeibaaDoorHG Go.Proofs.YtemddnccomeibaaDoor.PG10
set_option linter.unusedVariables false
set_option linter.unusedSimpArgs false
theorem ReadIs (s : ByteArray) (v e : Int) (h : readK s = (v, e)) (hs : s.size ≤ 100) (w : World) (hv : VarsAt w) :
    Calls Tryd.prog 8 #[.string s] w fun e' w' => e' = .returned (.tuple #[.int .u32 v, .int .i64 e]) ∧ Below w.heap.size w w' := by
  have := Read s hs w hv
  rw [h] at this
  exact this
theorem RefReadIs (s : ByteArray) (v e : Int) (h : readK s = (v, e)) (hs : s.size ≤ 100) (w : World) (hv : VarsAt w) :
    Calls Tryd.prog 9 #[.string s] w fun e' w' => e' = .returned (.tuple #[.int .u32 v, .int .i64 e]) ∧ Below w.heap.size w w' := by
  have := RefRead s hs w hv
  rw [← read_same, h] at this
  exact this
theorem PutIs (x : Ip) (l : List Op) (k : Int) (h : putK x = (l, k)) (hx : IpOk x) (w : World) (hv : VarsAt w) :
    Calls Tryd.prog 12 #[.agg #[.bool x.h0, .int .u32 x.a0, .bool x.h1, .int .u32 x.a1, .bool x.h2, .int .u32 x.a2]] w (OptsPost l k w) := by
  have := Put x hx w hv
  rw [h] at this
  exact this
theorem C_of_blk {w : World} {B : Nat} {cur : Array Value} {l : List Op} (h : w.heap[B]? = some (.cells cur 38 (0, 0))) (hl : l.length ≤ 100000) (hc : cur.toList = l.flatMap cel) : Kd.C k38 w (some ⟨B, 0, none⟩) l.length l := by
  have ho : w.ownsRow 0 38 2 (.slice (some ⟨B, 0, none⟩) l.length l.length) l.length (l.flatMap cel) := by
    have e := Go.Proofs.YtemddnccomeibaaDoorHS.flat_len cel 2 cel_len l
    refine ⟨e, .inr ⟨B, l.length, cur, rfl, Nat.zero_le _, h, Nat.le_refl _, by unfold maxLen; omega, by rw [← e, ← hc]; simp, ?_⟩⟩
    rw [← e, ← hc, List.take_length]
  obtain ⟨A, cap, hv, _, hC⟩ := C_of_own ho
  injection hv with hA _ _
  rw [hA]
  exact hC
def s1 : ByteArray := ⟨#[49, 48, 46, 48, 46, 48, 46, 49]⟩
def s2 : ByteArray := ⟨#[49, 48, 46, 48, 46, 48, 46, 50, 53, 54]⟩
def s3 : ByteArray := ⟨#[49, 48, 46, 48, 46, 48, 46, 48, 49]⟩
theorem r1 : readK s1 = (167772161, 0) := by decide +kernel
theorem r2 : readK s2 = (0, 7) := by decide +kernel
theorem r3 : readK s3 = (0, 7) := by decide +kernel
theorem t1 : textB 167772161 = s1 := by decide +kernel
def ip1 : Ip := ⟨true, 167772161, false, 0, false, 0⟩
def ip2 : Ip := ⟨false, 1, false, 0, false, 0⟩
theorem p1 : putK ip1 = ([⟨3, ⟨#[10, 0, 0, 1]⟩⟩], 0) := by rfl
theorem p2 : putK ip2 = ([], 2) := by rfl
theorem sm : halyardref08_Same.f 5 [⟨3, ⟨#[10, 0, 0, 1]⟩⟩] [⟨3, ⟨#[10, 0, 0, 1]⟩⟩] = some true := by decide +kernel
def AliveRet (w : World) (e : Ending) (w' : World) : Prop := e = .returned (.bool true) ∧ Below w.heap.size w w'
set_option maxRecDepth 100000 in
set_option maxHeartbeats 8000000 in
theorem alive (w : World) (hv : VarsAt w) : Calls Tryd.prog 7 #[] w (AliveRet w) := by
  have HV := Aside0.mk hv
  have HB := Aside0.mk (Below.refl w.heap.size w)
  have hV : ∀ W, Below w.heap.size w W → VarsAt W := fun W h => HV.out.below h
  clear hv
  have hq : (s1.toList == ([49, 48, 46, 48, 46, 48, 46, 49] : List UInt8)) = true := by decide +kernel
  have tok1 : True := trivial
  have tok2 : True := trivial
  have tokp : True := trivial
  go_enter Tryd.func7, Tryd.ntmps7
  go_wp2_with (first
    | (go_at_call 8; have t_ := tok1; clear t_; go_must (refine (ReadIs s1 _ _ r1 (by decide) _ (hV _ HB.out)).mono ?_); go_must (rintro e wj ⟨rfl, hb⟩; replace HB := Aside0.mk (below_step HB.out hb)); clear hb tok1)
    | (go_at_call 8; have t_ := tok2; clear t_; go_must (refine (ReadIs s2 _ _ r2 (by decide) _ (hV _ HB.out)).mono ?_); go_must (rintro e wj ⟨rfl, hb⟩; replace HB := Aside0.mk (below_step HB.out hb)); clear hb tok2)
    | (go_at_call 8; go_must (refine (ReadIs s3 _ _ r3 (by decide) _ (hV _ HB.out)).mono ?_); go_must (rintro e wj ⟨rfl, hb⟩; replace HB := Aside0.mk (below_step HB.out hb)); clear hb)
    | (go_at_call 12; have t_ := tokp; clear t_; go_must (refine (PutIs ip1 _ _ p1 ⟨by decide, by decide, by decide, by decide, by decide, by decide⟩ _ (hV _ HB.out)).mono ?_); go_must (rintro e wj ⟨vl, rfl, own, hb⟩; obtain ⟨A1, c1, rfl, hc1, hC1⟩ := C_of_own own; have HC1 := Aside0.mk hC1; have HP1 := Aside0.mk hc1; replace HB := Aside0.mk (below_step HB.out hb)); clear hb tokp own hC1 hc1)
    | (go_at_call 12; go_must (refine (PutIs ip2 _ _ p2 ⟨by decide, by decide, by decide, by decide, by decide, by decide⟩ _ (hV _ HB.out)).mono ?_); go_must (rintro e wj ⟨v2, rfl, own, hb⟩; replace HC1 := Aside0.mk (Kd.C_below HC1.out hb); replace HB := Aside0.mk (below_step HB.out hb)); clear hb own)
    | (go_at_call 10; go_must (refine (TextIs 167772161 s1 t1 (by decide) (by decide) _ (hV _ HB.out)).mono ?_); go_must (rintro e wj ⟨rfl, hb⟩; replace HC1 := Aside0.mk (Kd.C_below HC1.out hb); replace HB := Aside0.mk (below_step HB.out hb); have HQ := Aside0.mk (C_of_blk (l := [⟨3, ⟨#[10, 0, 0, 1]⟩⟩]) (blk_new wj (.cells #[.int .u8 3, .string ⟨#[10, 0, 0, 1]⟩] 38)) (by decide) rfl); have HC2 := Aside0.mk (Kd.C_below HC1.out (below_alloc (Below.refl _ wj) (.cells #[.int .u8 3, .string ⟨#[10, 0, 0, 1]⟩] 38)))); clear hb)
    | (go_at_call 16; go_must (refine (halyardref08_Same.calls 5 A1 c1 [⟨3, ⟨#[10, 0, 0, 1]⟩⟩] _ 1 [⟨3, ⟨#[10, 0, 0, 1]⟩⟩] true _ HC2.out HP1.out HQ.out (Nat.le_refl _) sm).mono ?_); go_must (rintro e wk ⟨rfl, nd, rfl⟩; replace HB := Aside0.mk (pw_below_drewN (below_alloc HB.out (.cells #[.int .u8 3, .string ⟨#[10, 0, 0, 1]⟩] 38)) nd))))
  go_ret
  exact ⟨rfl, HB.out⟩
set_option maxRecDepth 100000 in
set_option maxHeartbeats 4000000 in
theorem IpcpoptTexts_big (a : Int) (s : ByteArray) (h0 : 0 ≤ a) (h1 : a < 4294967296) (w : World) (hv : VarsAt w) (hz : 100 < s.size) :
    Calls Tryd.prog 3 #[.int .u32 a, .string s] w (AliveRet w) := by
  have HV := Aside0.mk hv
  have HB := Aside0.mk (Below.refl w.heap.size w)
  have hV : ∀ W, Below w.heap.size w W → VarsAt W := fun W h => HV.out.below h
  have d : decide ((100 : Int) < (s.size : Int)) = true := decide_eq_true (by omega)
  clear hv
  go_enter Tryd.func3, Tryd.ntmps3
  go_wp2_with (first
    | (go_at_call 7; go_must (refine (alive _ (hV _ HB.out)).mono ?_); go_must (rintro e' wj ⟨rfl, hb⟩; replace HB := Aside0.mk (below_step HB.out hb)); clear hb))
  first | go_ret | go_ret2 | go_ret3
  exact ⟨rfl, HB.out⟩
set_option maxRecDepth 100000 in
set_option maxHeartbeats 4000000 in
theorem IpcpoptTexts_ok (a : Int) (s : ByteArray) (h0 : 0 ≤ a) (h1 : a < 4294967296) (w : World) (hv : VarsAt w) (hz : s.size ≤ 100) (v e : Int) (hr : readK s = (v, e)) (r : ByteArray) (ht : textB a = r) :
    Calls Tryd.prog 3 #[.int .u32 a, .string s] w (AliveRet w) := by
  have HV := Aside0.mk hv
  have HB := Aside0.mk (Below.refl w.heap.size w)
  have hV : ∀ W, Below w.heap.size w W → VarsAt W := fun W h => HV.out.below h
  have d : decide ((100 : Int) < (s.size : Int)) = false := decide_eq_false (by omega)
  have HR := Aside0.mk hr
  have HT := Aside0.mk ht
  clear hr ht
  clear hv
  go_enter Tryd.func3, Tryd.ntmps3
  go_wp2_with (first
    | (go_at_call 8; go_must (refine (ReadIs s v e HR.out hz _ (hV _ HB.out)).mono ?_); go_must (rintro e' wj ⟨rfl, hb⟩; replace HB := Aside0.mk (below_step HB.out hb)); clear hb)
    | (go_at_call 9; go_must (refine (RefReadIs s v e HR.out hz _ (hV _ HB.out)).mono ?_); go_must (rintro e' wj ⟨rfl, hb⟩; replace HB := Aside0.mk (below_step HB.out hb)); clear hb)
    | (go_at_call 10; go_must (refine (TextIs a r HT.out h0 h1 _ (hV _ HB.out)).mono ?_); go_must (rintro e' wj ⟨rfl, hb⟩; replace HB := Aside0.mk (below_step HB.out hb)); clear hb)
    | (go_at_call 11; go_must (refine (RefTextIs a r HT.out h0 h1 _ (hV _ HB.out)).mono ?_); go_must (rintro e' wj ⟨rfl, hb⟩; replace HB := Aside0.mk (below_step HB.out hb)); clear hb)
    | (go_at_call 7; go_must (refine (alive _ (hV _ HB.out)).mono ?_); go_must (rintro e' wj ⟨rfl, hb⟩; replace HB := Aside0.mk (below_step HB.out hb)); clear hb))
  first | go_ret | go_ret2 | go_ret3
  exact ⟨rfl, HB.out⟩
theorem IpcpoptTexts_run (a : Int) (s : ByteArray) (h0 : 0 ≤ a) (h1 : a < 4294967296) (w : World) (hv : VarsAt w) :
    Calls Tryd.prog 3 #[.int .u32 a, .string s] w (AliveRet w) := by
  by_cases hz : s.size ≤ 100
  · exact IpcpoptTexts_ok a s h0 h1 w hv hz _ _ rfl _ rfl
  · exact IpcpoptTexts_big a s h0 h1 w hv (by omega)
end Go.Proofs.YtemddnccomeibaaDoorHIp
