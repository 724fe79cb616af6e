/- ipcpopt: IpcpoptBack's walk. -/
import Derived.Test.YtemddnccomeibaaDoorHIpB
import Derived.Deep.RegionHeld3
namespace Go.Proofs.YtemddnccomeibaaDoorHIp
open Go.RowKit Go.Proofs.YtemddnccomeibaaDoorW.PrintWords Go.Proofs.YtemddnccomeibaaDoorHW Go.Proofs.YtemddnccomeibaaDoorHG Go.Proofs.YtemddnccomeibaaDoor.PG10
set_option linter.unusedVariables false
set_option linter.unusedSimpArgs false
def ipA (x : Ip) : Value := .agg #[.bool x.h0, .int .u32 x.a0, .bool x.h1, .int .u32 x.a1, .bool x.h2, .int .u32 x.a2]
set_option maxRecDepth 100000 in
set_option maxHeartbeats 8000000 in
theorem Back_big (x : Ip) (hx : IpOk x) (a b : Int) (s : ByteArray) (a0 : 0 ≤ a) (a1 : a < 4294967296) (b0 : 0 ≤ b) (b1 : b < 4294967296) (w : World) (hv : VarsAt w) (hz : 100 < s.size) :
    Calls Tryd.prog 4 #[.agg #[.bool x.h0, .int .u32 x.a0, .bool x.h1, .int .u32 x.a1, .bool x.h2, .int .u32 x.a2], .int .u32 a, .int .u32 b, .string s] w (AliveRet w) := by
  have HV := Aside0.mk hv
  have HB := Aside0.mk (below_alloc (Below.refl w.heap.size w) (.cells #[.bool x.h0, .int .u32 x.a0, .bool x.h1, .int .u32 x.a1, .bool x.h2, .int .u32 x.a2] 30))
  have HI := Aside0.mk (show IpAt (w.alloc (.cells #[.bool x.h0, .int .u32 x.a0, .bool x.h1, .int .u32 x.a1, .bool x.h2, .int .u32 x.a2] 30)) w.heap.size x from blk_new w _)
  have huI := Tryd.underlying30
  have hV : ∀ W, Below w.heap.size w W → VarsAt W := fun W h => HV.out.below h
  have d : decide ((100 : Int) < (s.size : Int)) = true := decide_eq_true (by omega)
  clear hv
  go_enter Tryd.func4, Tryd.ntmps4
  go_wp2_with (first
    | (go_at_call 7; go_must (refine (alive _ (hV _ HB.out)).mono ?_); go_must (rintro e' wj ⟨rfl, hb⟩; replace HB := Aside0.mk (below_step HB.out hb)); clear hb))
  first | go_ret | go_ret2 | go_ret3
  exact ⟨rfl, HB.out⟩
set_option maxRecDepth 100000 in
set_option maxHeartbeats 8000000 in
theorem Back_mre (x : Ip) (hx : IpOk x) (a : Int) (s : ByteArray) (a0 : 0 ≤ a) (a1 : a < 4294967296) (w : World) (hv : VarsAt w) (hz : s.size ≤ 100) (l : List Op) (hp : putK x = (l, 0)) (hg : getK l = (x, [], 0)) (hl : l.length ≤ 3) (hn : ∀ o ∈ l, o.f1.size ≤ 140737488351232) (v : Int) (v0 : 0 ≤ v) (v1 : v < 4294967296) (hr : readK s = (v, 0)) (hs : textB v = s) (ra : ByteArray) (ta : textB a = ra) (ra0 : readK ra = (a, 0)) (zra : ra.size ≤ 100) :
    Calls Tryd.prog 4 #[.agg #[.bool x.h0, .int .u32 x.a0, .bool x.h1, .int .u32 x.a1, .bool x.h2, .int .u32 x.a2], .int .u32 a, .int .u32 a, .string s] w (AliveRet w) := by
  have HV := Aside0.mk hv
  have HB := Aside0.mk (below_alloc (Below.refl w.heap.size w) (.cells #[.bool x.h0, .int .u32 x.a0, .bool x.h1, .int .u32 x.a1, .bool x.h2, .int .u32 x.a2] 30))
  have HI := Aside0.mk (show IpAt (w.alloc (.cells #[.bool x.h0, .int .u32 x.a0, .bool x.h1, .int .u32 x.a1, .bool x.h2, .int .u32 x.a2] 30)) w.heap.size x from blk_new w _)
  have huI := Tryd.underlying30
  have hV : ∀ W, Below w.heap.size w W → VarsAt W := fun W h => HV.out.below h
  have d : decide ((100 : Int) < (s.size : Int)) = false := decide_eq_false (by omega)
  clear hv
  have HX := Aside0.mk hx
  have HP := Aside0.mk hp
  have HR := Aside0.mk hr
  have TA := Aside0.mk ta
  have RA := Aside0.mk ra0
  clear hx hp hr ta ra0
  have HG := Aside0.mk hg
  have HN := Aside0.mk hn
  have HL := Aside0.mk hl
  clear hg hn hl
  have TV := Aside0.mk hs
  clear hs
  have tx0 : True := trivial
  have tx1 : True := trivial
  have tx2 : True := trivial
  have tr : True := trivial
  go_enter Tryd.func4, Tryd.ntmps4
  go_wp2_with (first
    | (go_at_call 12; go_must (refine (PutIs x l 0 HP.out HX.out _ (hV _ HB.out)).mono ?_); go_must (rintro e' wj ⟨vl, rfl, own, hb⟩; replace HB := Aside0.mk (below_step HB.out hb); obtain ⟨A1, c1, rfl, hc1, hC1⟩ := C_of_own own; have HC1 := Aside0.mk hC1; have HP1 := Aside0.mk hc1; clear own hC1 hc1; have HIf := HI.out.below hb; have HI2 := Aside0.mk HIf; clear HIf); clear hb)
    | (go_at_call 13; go_must (refine (GetIs A1 c1 l x [] 0 HG.out _ (hV _ HB.out) HC1.out HP1.out (Nat.le_trans HL.out (by decide)) HN.out).mono ?_); go_must (rintro e' wj ⟨A2, c2, rfl, hc2, hC2, hb⟩; replace HB := Aside0.mk (below_step HB.out hb); replace HB := Aside0.mk (below_alloc HB.out (.cells #[.bool x.h0, .int .u32 x.a0, .bool x.h1, .int .u32 x.a1, .bool x.h2, .int .u32 x.a2] 30)); clear hc2 hC2; have HIf := HI2.out.below hb; obtain ⟨x0, x1, x2, x3, x4, x5⟩ := HIf.cells; have zx := blk_lt HIf; clear HIf); clear hb)
    | (go_at_call 10; have t_ := tx0; clear t_; go_must (refine (TextIs a ra TA.out a0 a1 _ (hV _ HB.out)).mono ?_); go_must (rintro e' wj ⟨rfl, hb⟩; replace HB := Aside0.mk (below_step HB.out hb)); clear hb tx0)
    | (go_at_call 10; have t_ := tx1; clear t_; go_must (refine (TextIs v s TV.out v0 v1 _ (hV _ HB.out)).mono ?_); go_must (rintro e' wj ⟨rfl, hb⟩; replace HB := Aside0.mk (below_step HB.out hb)); clear hb tx1)
    | (go_at_call 10; have t_ := tx2; clear t_; go_must (refine (TextIs a ra TA.out a0 a1 _ (hV _ HB.out)).mono ?_); go_must (rintro e' wj ⟨rfl, hb⟩; replace HB := Aside0.mk (below_step HB.out hb)); clear hb tx2)
    | (go_at_call 10; go_must (refine (TextIs a ra TA.out a0 a1 _ (hV _ HB.out)).mono ?_); go_must (rintro e' wj ⟨rfl, hb⟩; replace HB := Aside0.mk (below_step HB.out hb)); clear hb)
    | (go_at_call 8; have t_ := tr; clear t_; go_must (refine (ReadIs ra a 0 RA.out zra _ (hV _ HB.out)).mono ?_); go_must (rintro e' wj ⟨rfl, hb⟩; replace HB := Aside0.mk (below_step HB.out hb)); clear hb tr)
    | (go_at_call 8; go_must (refine (ReadIs s v 0 HR.out hz _ (hV _ HB.out)).mono ?_); go_must (rintro e' wj ⟨rfl, hb⟩; replace HB := Aside0.mk (below_step HB.out hb)); clear hb)
    | (go_at_call 7; go_must (refine (alive _ (hV _ HB.out)).mono ?_); go_must (rintro e' wj ⟨rfl, hb⟩; replace HB := Aside0.mk (below_step HB.out hb)); clear hb))
  first | go_ret | go_ret2 | go_ret3
  exact ⟨rfl, HB.out⟩
set_option maxRecDepth 100000 in
set_option maxHeartbeats 8000000 in
theorem Back_mrd (x : Ip) (hx : IpOk x) (a b : Int) (s : ByteArray) (a0 : 0 ≤ a) (a1 : a < 4294967296) (b0 : 0 ≤ b) (b1 : b < 4294967296) (w : World) (hv : VarsAt w) (hz : s.size ≤ 100) (l : List Op) (hp : putK x = (l, 0)) (hg : getK l = (x, [], 0)) (hl : l.length ≤ 3) (hn : ∀ o ∈ l, o.f1.size ≤ 140737488351232) (v : Int) (v0 : 0 ≤ v) (v1 : v < 4294967296) (hr : readK s = (v, 0)) (hs : textB v = s) (ra : ByteArray) (ta : textB a = ra) (ra0 : readK ra = (a, 0)) (zra : ra.size ≤ 100) (rb : ByteArray) (tb : textB b = rb) (hab : ¬ a = b) (hrab : ¬ ra = rb) :
    Calls Tryd.prog 4 #[.agg #[.bool x.h0, .int .u32 x.a0, .bool x.h1, .int .u32 x.a1, .bool x.h2, .int .u32 x.a2], .int .u32 a, .int .u32 b, .string s] w (AliveRet w) := by
  have HV := Aside0.mk hv
  have HB := Aside0.mk (below_alloc (Below.refl w.heap.size w) (.cells #[.bool x.h0, .int .u32 x.a0, .bool x.h1, .int .u32 x.a1, .bool x.h2, .int .u32 x.a2] 30))
  have HI := Aside0.mk (show IpAt (w.alloc (.cells #[.bool x.h0, .int .u32 x.a0, .bool x.h1, .int .u32 x.a1, .bool x.h2, .int .u32 x.a2] 30)) w.heap.size x from blk_new w _)
  have huI := Tryd.underlying30
  have hV : ∀ W, Below w.heap.size w W → VarsAt W := fun W h => HV.out.below h
  have d : decide ((100 : Int) < (s.size : Int)) = false := decide_eq_false (by omega)
  clear hv
  have HX := Aside0.mk hx
  have HP := Aside0.mk hp
  have HR := Aside0.mk hr
  have TA := Aside0.mk ta
  have RA := Aside0.mk ra0
  clear hx hp hr ta ra0
  have HG := Aside0.mk hg
  have HN := Aside0.mk hn
  have HL := Aside0.mk hl
  clear hg hn hl
  have TV := Aside0.mk hs
  clear hs
  have TB := Aside0.mk tb
  have dab : (a == b) = false := beq_eq_false_iff_ne.2 hab
  have drab : (ra.toList == rb.toList) = false := beq_eq_false_iff_ne.2 (fun h => hrab (hw_toList_inj h))
  clear tb
  have tx0 : True := trivial
  have tx1 : True := trivial
  have tx2 : True := trivial
  have tr : True := trivial
  go_enter Tryd.func4, Tryd.ntmps4
  go_wp2_with (first
    | (go_at_call 12; go_must (refine (PutIs x l 0 HP.out HX.out _ (hV _ HB.out)).mono ?_); go_must (rintro e' wj ⟨vl, rfl, own, hb⟩; replace HB := Aside0.mk (below_step HB.out hb); obtain ⟨A1, c1, rfl, hc1, hC1⟩ := C_of_own own; have HC1 := Aside0.mk hC1; have HP1 := Aside0.mk hc1; clear own hC1 hc1; have HIf := HI.out.below hb; have HI2 := Aside0.mk HIf; clear HIf); clear hb)
    | (go_at_call 13; go_must (refine (GetIs A1 c1 l x [] 0 HG.out _ (hV _ HB.out) HC1.out HP1.out (Nat.le_trans HL.out (by decide)) HN.out).mono ?_); go_must (rintro e' wj ⟨A2, c2, rfl, hc2, hC2, hb⟩; replace HB := Aside0.mk (below_step HB.out hb); replace HB := Aside0.mk (below_alloc HB.out (.cells #[.bool x.h0, .int .u32 x.a0, .bool x.h1, .int .u32 x.a1, .bool x.h2, .int .u32 x.a2] 30)); clear hc2 hC2; have HIf := HI2.out.below hb; obtain ⟨x0, x1, x2, x3, x4, x5⟩ := HIf.cells; have zx := blk_lt HIf; clear HIf); clear hb)
    | (go_at_call 10; have t_ := tx0; clear t_; go_must (refine (TextIs a ra TA.out a0 a1 _ (hV _ HB.out)).mono ?_); go_must (rintro e' wj ⟨rfl, hb⟩; replace HB := Aside0.mk (below_step HB.out hb)); clear hb tx0)
    | (go_at_call 10; have t_ := tx1; clear t_; go_must (refine (TextIs v s TV.out v0 v1 _ (hV _ HB.out)).mono ?_); go_must (rintro e' wj ⟨rfl, hb⟩; replace HB := Aside0.mk (below_step HB.out hb)); clear hb tx1)
    | (go_at_call 10; have t_ := tx2; clear t_; go_must (refine (TextIs a ra TA.out a0 a1 _ (hV _ HB.out)).mono ?_); go_must (rintro e' wj ⟨rfl, hb⟩; replace HB := Aside0.mk (below_step HB.out hb)); clear hb tx2)
    | (go_at_call 10; go_must (refine (TextIs b rb TB.out b0 b1 _ (hV _ HB.out)).mono ?_); go_must (rintro e' wj ⟨rfl, hb⟩; replace HB := Aside0.mk (below_step HB.out hb)); clear hb)
    | (go_at_call 8; have t_ := tr; clear t_; go_must (refine (ReadIs ra a 0 RA.out zra _ (hV _ HB.out)).mono ?_); go_must (rintro e' wj ⟨rfl, hb⟩; replace HB := Aside0.mk (below_step HB.out hb)); clear hb tr)
    | (go_at_call 8; go_must (refine (ReadIs s v 0 HR.out hz _ (hV _ HB.out)).mono ?_); go_must (rintro e' wj ⟨rfl, hb⟩; replace HB := Aside0.mk (below_step HB.out hb)); clear hb)
    | (go_at_call 7; go_must (refine (alive _ (hV _ HB.out)).mono ?_); go_must (rintro e' wj ⟨rfl, hb⟩; replace HB := Aside0.mk (below_step HB.out hb)); clear hb))
  first | go_ret | go_ret2 | go_ret3
  exact ⟨rfl, HB.out⟩
set_option maxRecDepth 100000 in
set_option maxHeartbeats 8000000 in
theorem Back_mfe (x : Ip) (hx : IpOk x) (a : Int) (s : ByteArray) (a0 : 0 ≤ a) (a1 : a < 4294967296) (w : World) (hv : VarsAt w) (hz : s.size ≤ 100) (l : List Op) (hp : putK x = (l, 0)) (hg : getK l = (x, [], 0)) (hl : l.length ≤ 3) (hn : ∀ o ∈ l, o.f1.size ≤ 140737488351232) (v : Int) (v0 : 0 ≤ v) (v1 : v < 4294967296) (hr : readK s = (v, 7)) (ra : ByteArray) (ta : textB a = ra) (ra0 : readK ra = (a, 0)) (zra : ra.size ≤ 100) :
    Calls Tryd.prog 4 #[.agg #[.bool x.h0, .int .u32 x.a0, .bool x.h1, .int .u32 x.a1, .bool x.h2, .int .u32 x.a2], .int .u32 a, .int .u32 a, .string s] w (AliveRet w) := by
  have HV := Aside0.mk hv
  have HB := Aside0.mk (below_alloc (Below.refl w.heap.size w) (.cells #[.bool x.h0, .int .u32 x.a0, .bool x.h1, .int .u32 x.a1, .bool x.h2, .int .u32 x.a2] 30))
  have HI := Aside0.mk (show IpAt (w.alloc (.cells #[.bool x.h0, .int .u32 x.a0, .bool x.h1, .int .u32 x.a1, .bool x.h2, .int .u32 x.a2] 30)) w.heap.size x from blk_new w _)
  have huI := Tryd.underlying30
  have hV : ∀ W, Below w.heap.size w W → VarsAt W := fun W h => HV.out.below h
  have d : decide ((100 : Int) < (s.size : Int)) = false := decide_eq_false (by omega)
  clear hv
  have HX := Aside0.mk hx
  have HP := Aside0.mk hp
  have HR := Aside0.mk hr
  have TA := Aside0.mk ta
  have RA := Aside0.mk ra0
  clear hx hp hr ta ra0
  have HG := Aside0.mk hg
  have HN := Aside0.mk hn
  have HL := Aside0.mk hl
  clear hg hn hl
  have tx0 : True := trivial
  have tx1 : True := trivial
  have tr : True := trivial
  go_enter Tryd.func4, Tryd.ntmps4
  go_wp2_with (first
    | (go_at_call 12; go_must (refine (PutIs x l 0 HP.out HX.out _ (hV _ HB.out)).mono ?_); go_must (rintro e' wj ⟨vl, rfl, own, hb⟩; replace HB := Aside0.mk (below_step HB.out hb); obtain ⟨A1, c1, rfl, hc1, hC1⟩ := C_of_own own; have HC1 := Aside0.mk hC1; have HP1 := Aside0.mk hc1; clear own hC1 hc1; have HIf := HI.out.below hb; have HI2 := Aside0.mk HIf; clear HIf); clear hb)
    | (go_at_call 13; go_must (refine (GetIs A1 c1 l x [] 0 HG.out _ (hV _ HB.out) HC1.out HP1.out (Nat.le_trans HL.out (by decide)) HN.out).mono ?_); go_must (rintro e' wj ⟨A2, c2, rfl, hc2, hC2, hb⟩; replace HB := Aside0.mk (below_step HB.out hb); replace HB := Aside0.mk (below_alloc HB.out (.cells #[.bool x.h0, .int .u32 x.a0, .bool x.h1, .int .u32 x.a1, .bool x.h2, .int .u32 x.a2] 30)); clear hc2 hC2; have HIf := HI2.out.below hb; obtain ⟨x0, x1, x2, x3, x4, x5⟩ := HIf.cells; have zx := blk_lt HIf; clear HIf); clear hb)
    | (go_at_call 10; have t_ := tx0; clear t_; go_must (refine (TextIs a ra TA.out a0 a1 _ (hV _ HB.out)).mono ?_); go_must (rintro e' wj ⟨rfl, hb⟩; replace HB := Aside0.mk (below_step HB.out hb)); clear hb tx0)
    | (go_at_call 10; have t_ := tx1; clear t_; go_must (refine (TextIs a ra TA.out a0 a1 _ (hV _ HB.out)).mono ?_); go_must (rintro e' wj ⟨rfl, hb⟩; replace HB := Aside0.mk (below_step HB.out hb)); clear hb tx1)
    | (go_at_call 10; go_must (refine (TextIs a ra TA.out a0 a1 _ (hV _ HB.out)).mono ?_); go_must (rintro e' wj ⟨rfl, hb⟩; replace HB := Aside0.mk (below_step HB.out hb)); clear hb)
    | (go_at_call 8; have t_ := tr; clear t_; go_must (refine (ReadIs ra a 0 RA.out zra _ (hV _ HB.out)).mono ?_); go_must (rintro e' wj ⟨rfl, hb⟩; replace HB := Aside0.mk (below_step HB.out hb)); clear hb tr)
    | (go_at_call 8; go_must (refine (ReadIs s v 7 HR.out hz _ (hV _ HB.out)).mono ?_); go_must (rintro e' wj ⟨rfl, hb⟩; replace HB := Aside0.mk (below_step HB.out hb)); clear hb)
    | (go_at_call 7; go_must (refine (alive _ (hV _ HB.out)).mono ?_); go_must (rintro e' wj ⟨rfl, hb⟩; replace HB := Aside0.mk (below_step HB.out hb)); clear hb))
  first | go_ret | go_ret2 | go_ret3
  exact ⟨rfl, HB.out⟩
set_option maxRecDepth 100000 in
set_option maxHeartbeats 8000000 in
theorem Back_mfd (x : Ip) (hx : IpOk x) (a b : Int) (s : ByteArray) (a0 : 0 ≤ a) (a1 : a < 4294967296) (b0 : 0 ≤ b) (b1 : b < 4294967296) (w : World) (hv : VarsAt w) (hz : s.size ≤ 100) (l : List Op) (hp : putK x = (l, 0)) (hg : getK l = (x, [], 0)) (hl : l.length ≤ 3) (hn : ∀ o ∈ l, o.f1.size ≤ 140737488351232) (v : Int) (v0 : 0 ≤ v) (v1 : v < 4294967296) (hr : readK s = (v, 7)) (ra : ByteArray) (ta : textB a = ra) (ra0 : readK ra = (a, 0)) (zra : ra.size ≤ 100) (rb : ByteArray) (tb : textB b = rb) (hab : ¬ a = b) (hrab : ¬ ra = rb) :
    Calls Tryd.prog 4 #[.agg #[.bool x.h0, .int .u32 x.a0, .bool x.h1, .int .u32 x.a1, .bool x.h2, .int .u32 x.a2], .int .u32 a, .int .u32 b, .string s] w (AliveRet w) := by
  have HV := Aside0.mk hv
  have HB := Aside0.mk (below_alloc (Below.refl w.heap.size w) (.cells #[.bool x.h0, .int .u32 x.a0, .bool x.h1, .int .u32 x.a1, .bool x.h2, .int .u32 x.a2] 30))
  have HI := Aside0.mk (show IpAt (w.alloc (.cells #[.bool x.h0, .int .u32 x.a0, .bool x.h1, .int .u32 x.a1, .bool x.h2, .int .u32 x.a2] 30)) w.heap.size x from blk_new w _)
  have huI := Tryd.underlying30
  have hV : ∀ W, Below w.heap.size w W → VarsAt W := fun W h => HV.out.below h
  have d : decide ((100 : Int) < (s.size : Int)) = false := decide_eq_false (by omega)
  clear hv
  have HX := Aside0.mk hx
  have HP := Aside0.mk hp
  have HR := Aside0.mk hr
  have TA := Aside0.mk ta
  have RA := Aside0.mk ra0
  clear hx hp hr ta ra0
  have HG := Aside0.mk hg
  have HN := Aside0.mk hn
  have HL := Aside0.mk hl
  clear hg hn hl
  have TB := Aside0.mk tb
  have dab : (a == b) = false := beq_eq_false_iff_ne.2 hab
  have drab : (ra.toList == rb.toList) = false := beq_eq_false_iff_ne.2 (fun h => hrab (hw_toList_inj h))
  clear tb
  have tx0 : True := trivial
  have tx1 : True := trivial
  have tr : True := trivial
  go_enter Tryd.func4, Tryd.ntmps4
  go_wp2_with (first
    | (go_at_call 12; go_must (refine (PutIs x l 0 HP.out HX.out _ (hV _ HB.out)).mono ?_); go_must (rintro e' wj ⟨vl, rfl, own, hb⟩; replace HB := Aside0.mk (below_step HB.out hb); obtain ⟨A1, c1, rfl, hc1, hC1⟩ := C_of_own own; have HC1 := Aside0.mk hC1; have HP1 := Aside0.mk hc1; clear own hC1 hc1; have HIf := HI.out.below hb; have HI2 := Aside0.mk HIf; clear HIf); clear hb)
    | (go_at_call 13; go_must (refine (GetIs A1 c1 l x [] 0 HG.out _ (hV _ HB.out) HC1.out HP1.out (Nat.le_trans HL.out (by decide)) HN.out).mono ?_); go_must (rintro e' wj ⟨A2, c2, rfl, hc2, hC2, hb⟩; replace HB := Aside0.mk (below_step HB.out hb); replace HB := Aside0.mk (below_alloc HB.out (.cells #[.bool x.h0, .int .u32 x.a0, .bool x.h1, .int .u32 x.a1, .bool x.h2, .int .u32 x.a2] 30)); clear hc2 hC2; have HIf := HI2.out.below hb; obtain ⟨x0, x1, x2, x3, x4, x5⟩ := HIf.cells; have zx := blk_lt HIf; clear HIf); clear hb)
    | (go_at_call 10; have t_ := tx0; clear t_; go_must (refine (TextIs a ra TA.out a0 a1 _ (hV _ HB.out)).mono ?_); go_must (rintro e' wj ⟨rfl, hb⟩; replace HB := Aside0.mk (below_step HB.out hb)); clear hb tx0)
    | (go_at_call 10; have t_ := tx1; clear t_; go_must (refine (TextIs a ra TA.out a0 a1 _ (hV _ HB.out)).mono ?_); go_must (rintro e' wj ⟨rfl, hb⟩; replace HB := Aside0.mk (below_step HB.out hb)); clear hb tx1)
    | (go_at_call 10; go_must (refine (TextIs b rb TB.out b0 b1 _ (hV _ HB.out)).mono ?_); go_must (rintro e' wj ⟨rfl, hb⟩; replace HB := Aside0.mk (below_step HB.out hb)); clear hb)
    | (go_at_call 8; have t_ := tr; clear t_; go_must (refine (ReadIs ra a 0 RA.out zra _ (hV _ HB.out)).mono ?_); go_must (rintro e' wj ⟨rfl, hb⟩; replace HB := Aside0.mk (below_step HB.out hb)); clear hb tr)
    | (go_at_call 8; go_must (refine (ReadIs s v 7 HR.out hz _ (hV _ HB.out)).mono ?_); go_must (rintro e' wj ⟨rfl, hb⟩; replace HB := Aside0.mk (below_step HB.out hb)); clear hb)
    | (go_at_call 7; go_must (refine (alive _ (hV _ HB.out)).mono ?_); go_must (rintro e' wj ⟨rfl, hb⟩; replace HB := Aside0.mk (below_step HB.out hb)); clear hb))
  first | go_ret | go_ret2 | go_ret3
  exact ⟨rfl, HB.out⟩
set_option maxRecDepth 100000 in
set_option maxHeartbeats 8000000 in
theorem Back_nre (x : Ip) (hx : IpOk x) (a : Int) (s : ByteArray) (a0 : 0 ≤ a) (a1 : a < 4294967296) (w : World) (hv : VarsAt w) (hz : s.size ≤ 100) (l : List Op) (hp : putK x = (l, 2)) (v : Int) (v0 : 0 ≤ v) (v1 : v < 4294967296) (hr : readK s = (v, 0)) (hs : textB v = s) (ra : ByteArray) (ta : textB a = ra) (ra0 : readK ra = (a, 0)) (zra : ra.size ≤ 100) :
    Calls Tryd.prog 4 #[.agg #[.bool x.h0, .int .u32 x.a0, .bool x.h1, .int .u32 x.a1, .bool x.h2, .int .u32 x.a2], .int .u32 a, .int .u32 a, .string s] w (AliveRet w) := by
  have HV := Aside0.mk hv
  have HB := Aside0.mk (below_alloc (Below.refl w.heap.size w) (.cells #[.bool x.h0, .int .u32 x.a0, .bool x.h1, .int .u32 x.a1, .bool x.h2, .int .u32 x.a2] 30))
  have HI := Aside0.mk (show IpAt (w.alloc (.cells #[.bool x.h0, .int .u32 x.a0, .bool x.h1, .int .u32 x.a1, .bool x.h2, .int .u32 x.a2] 30)) w.heap.size x from blk_new w _)
  have huI := Tryd.underlying30
  have hV : ∀ W, Below w.heap.size w W → VarsAt W := fun W h => HV.out.below h
  have d : decide ((100 : Int) < (s.size : Int)) = false := decide_eq_false (by omega)
  clear hv
  have HX := Aside0.mk hx
  have HP := Aside0.mk hp
  have HR := Aside0.mk hr
  have TA := Aside0.mk ta
  have RA := Aside0.mk ra0
  clear hx hp hr ta ra0
  have TV := Aside0.mk hs
  clear hs
  have tx0 : True := trivial
  have tx1 : True := trivial
  have tx2 : True := trivial
  have tr : True := trivial
  go_enter Tryd.func4, Tryd.ntmps4
  go_wp2_with (first
    | (go_at_call 12; go_must (refine (PutIs x l 2 HP.out HX.out _ (hV _ HB.out)).mono ?_); go_must (rintro e' wj ⟨vl, rfl, own, hb⟩; replace HB := Aside0.mk (below_step HB.out hb); clear own); clear hb)
    | (go_at_call 10; have t_ := tx0; clear t_; go_must (refine (TextIs a ra TA.out a0 a1 _ (hV _ HB.out)).mono ?_); go_must (rintro e' wj ⟨rfl, hb⟩; replace HB := Aside0.mk (below_step HB.out hb)); clear hb tx0)
    | (go_at_call 10; have t_ := tx1; clear t_; go_must (refine (TextIs v s TV.out v0 v1 _ (hV _ HB.out)).mono ?_); go_must (rintro e' wj ⟨rfl, hb⟩; replace HB := Aside0.mk (below_step HB.out hb)); clear hb tx1)
    | (go_at_call 10; have t_ := tx2; clear t_; go_must (refine (TextIs a ra TA.out a0 a1 _ (hV _ HB.out)).mono ?_); go_must (rintro e' wj ⟨rfl, hb⟩; replace HB := Aside0.mk (below_step HB.out hb)); clear hb tx2)
    | (go_at_call 10; go_must (refine (TextIs a ra TA.out a0 a1 _ (hV _ HB.out)).mono ?_); go_must (rintro e' wj ⟨rfl, hb⟩; replace HB := Aside0.mk (below_step HB.out hb)); clear hb)
    | (go_at_call 8; have t_ := tr; clear t_; go_must (refine (ReadIs ra a 0 RA.out zra _ (hV _ HB.out)).mono ?_); go_must (rintro e' wj ⟨rfl, hb⟩; replace HB := Aside0.mk (below_step HB.out hb)); clear hb tr)
    | (go_at_call 8; go_must (refine (ReadIs s v 0 HR.out hz _ (hV _ HB.out)).mono ?_); go_must (rintro e' wj ⟨rfl, hb⟩; replace HB := Aside0.mk (below_step HB.out hb)); clear hb)
    | (go_at_call 7; go_must (refine (alive _ (hV _ HB.out)).mono ?_); go_must (rintro e' wj ⟨rfl, hb⟩; replace HB := Aside0.mk (below_step HB.out hb)); clear hb))
  first | go_ret | go_ret2 | go_ret3
  exact ⟨rfl, HB.out⟩
set_option maxRecDepth 100000 in
set_option maxHeartbeats 8000000 in
theorem Back_nrd (x : Ip) (hx : IpOk x) (a b : Int) (s : ByteArray) (a0 : 0 ≤ a) (a1 : a < 4294967296) (b0 : 0 ≤ b) (b1 : b < 4294967296) (w : World) (hv : VarsAt w) (hz : s.size ≤ 100) (l : List Op) (hp : putK x = (l, 2)) (v : Int) (v0 : 0 ≤ v) (v1 : v < 4294967296) (hr : readK s = (v, 0)) (hs : textB v = s) (ra : ByteArray) (ta : textB a = ra) (ra0 : readK ra = (a, 0)) (zra : ra.size ≤ 100) (rb : ByteArray) (tb : textB b = rb) (hab : ¬ a = b) (hrab : ¬ ra = rb) :
    Calls Tryd.prog 4 #[.agg #[.bool x.h0, .int .u32 x.a0, .bool x.h1, .int .u32 x.a1, .bool x.h2, .int .u32 x.a2], .int .u32 a, .int .u32 b, .string s] w (AliveRet w) := by
  have HV := Aside0.mk hv
  have HB := Aside0.mk (below_alloc (Below.refl w.heap.size w) (.cells #[.bool x.h0, .int .u32 x.a0, .bool x.h1, .int .u32 x.a1, .bool x.h2, .int .u32 x.a2] 30))
  have HI := Aside0.mk (show IpAt (w.alloc (.cells #[.bool x.h0, .int .u32 x.a0, .bool x.h1, .int .u32 x.a1, .bool x.h2, .int .u32 x.a2] 30)) w.heap.size x from blk_new w _)
  have huI := Tryd.underlying30
  have hV : ∀ W, Below w.heap.size w W → VarsAt W := fun W h => HV.out.below h
  have d : decide ((100 : Int) < (s.size : Int)) = false := decide_eq_false (by omega)
  clear hv
  have HX := Aside0.mk hx
  have HP := Aside0.mk hp
  have HR := Aside0.mk hr
  have TA := Aside0.mk ta
  have RA := Aside0.mk ra0
  clear hx hp hr ta ra0
  have TV := Aside0.mk hs
  clear hs
  have TB := Aside0.mk tb
  have dab : (a == b) = false := beq_eq_false_iff_ne.2 hab
  have drab : (ra.toList == rb.toList) = false := beq_eq_false_iff_ne.2 (fun h => hrab (hw_toList_inj h))
  clear tb
  have tx0 : True := trivial
  have tx1 : True := trivial
  have tx2 : True := trivial
  have tr : True := trivial
  go_enter Tryd.func4, Tryd.ntmps4
  go_wp2_with (first
    | (go_at_call 12; go_must (refine (PutIs x l 2 HP.out HX.out _ (hV _ HB.out)).mono ?_); go_must (rintro e' wj ⟨vl, rfl, own, hb⟩; replace HB := Aside0.mk (below_step HB.out hb); clear own); clear hb)
    | (go_at_call 10; have t_ := tx0; clear t_; go_must (refine (TextIs a ra TA.out a0 a1 _ (hV _ HB.out)).mono ?_); go_must (rintro e' wj ⟨rfl, hb⟩; replace HB := Aside0.mk (below_step HB.out hb)); clear hb tx0)
    | (go_at_call 10; have t_ := tx1; clear t_; go_must (refine (TextIs v s TV.out v0 v1 _ (hV _ HB.out)).mono ?_); go_must (rintro e' wj ⟨rfl, hb⟩; replace HB := Aside0.mk (below_step HB.out hb)); clear hb tx1)
    | (go_at_call 10; have t_ := tx2; clear t_; go_must (refine (TextIs a ra TA.out a0 a1 _ (hV _ HB.out)).mono ?_); go_must (rintro e' wj ⟨rfl, hb⟩; replace HB := Aside0.mk (below_step HB.out hb)); clear hb tx2)
    | (go_at_call 10; go_must (refine (TextIs b rb TB.out b0 b1 _ (hV _ HB.out)).mono ?_); go_must (rintro e' wj ⟨rfl, hb⟩; replace HB := Aside0.mk (below_step HB.out hb)); clear hb)
    | (go_at_call 8; have t_ := tr; clear t_; go_must (refine (ReadIs ra a 0 RA.out zra _ (hV _ HB.out)).mono ?_); go_must (rintro e' wj ⟨rfl, hb⟩; replace HB := Aside0.mk (below_step HB.out hb)); clear hb tr)
    | (go_at_call 8; go_must (refine (ReadIs s v 0 HR.out hz _ (hV _ HB.out)).mono ?_); go_must (rintro e' wj ⟨rfl, hb⟩; replace HB := Aside0.mk (below_step HB.out hb)); clear hb)
    | (go_at_call 7; go_must (refine (alive _ (hV _ HB.out)).mono ?_); go_must (rintro e' wj ⟨rfl, hb⟩; replace HB := Aside0.mk (below_step HB.out hb)); clear hb))
  first | go_ret | go_ret2 | go_ret3
  exact ⟨rfl, HB.out⟩
set_option maxRecDepth 100000 in
set_option maxHeartbeats 8000000 in
theorem Back_nfe (x : Ip) (hx : IpOk x) (a : Int) (s : ByteArray) (a0 : 0 ≤ a) (a1 : a < 4294967296) (w : World) (hv : VarsAt w) (hz : s.size ≤ 100) (l : List Op) (hp : putK x = (l, 2)) (v : Int) (v0 : 0 ≤ v) (v1 : v < 4294967296) (hr : readK s = (v, 7)) (ra : ByteArray) (ta : textB a = ra) (ra0 : readK ra = (a, 0)) (zra : ra.size ≤ 100) :
    Calls Tryd.prog 4 #[.agg #[.bool x.h0, .int .u32 x.a0, .bool x.h1, .int .u32 x.a1, .bool x.h2, .int .u32 x.a2], .int .u32 a, .int .u32 a, .string s] w (AliveRet w) := by
  have HV := Aside0.mk hv
  have HB := Aside0.mk (below_alloc (Below.refl w.heap.size w) (.cells #[.bool x.h0, .int .u32 x.a0, .bool x.h1, .int .u32 x.a1, .bool x.h2, .int .u32 x.a2] 30))
  have HI := Aside0.mk (show IpAt (w.alloc (.cells #[.bool x.h0, .int .u32 x.a0, .bool x.h1, .int .u32 x.a1, .bool x.h2, .int .u32 x.a2] 30)) w.heap.size x from blk_new w _)
  have huI := Tryd.underlying30
  have hV : ∀ W, Below w.heap.size w W → VarsAt W := fun W h => HV.out.below h
  have d : decide ((100 : Int) < (s.size : Int)) = false := decide_eq_false (by omega)
  clear hv
  have HX := Aside0.mk hx
  have HP := Aside0.mk hp
  have HR := Aside0.mk hr
  have TA := Aside0.mk ta
  have RA := Aside0.mk ra0
  clear hx hp hr ta ra0
  have tx0 : True := trivial
  have tx1 : True := trivial
  have tr : True := trivial
  go_enter Tryd.func4, Tryd.ntmps4
  go_wp2_with (first
    | (go_at_call 12; go_must (refine (PutIs x l 2 HP.out HX.out _ (hV _ HB.out)).mono ?_); go_must (rintro e' wj ⟨vl, rfl, own, hb⟩; replace HB := Aside0.mk (below_step HB.out hb); clear own); clear hb)
    | (go_at_call 10; have t_ := tx0; clear t_; go_must (refine (TextIs a ra TA.out a0 a1 _ (hV _ HB.out)).mono ?_); go_must (rintro e' wj ⟨rfl, hb⟩; replace HB := Aside0.mk (below_step HB.out hb)); clear hb tx0)
    | (go_at_call 10; have t_ := tx1; clear t_; go_must (refine (TextIs a ra TA.out a0 a1 _ (hV _ HB.out)).mono ?_); go_must (rintro e' wj ⟨rfl, hb⟩; replace HB := Aside0.mk (below_step HB.out hb)); clear hb tx1)
    | (go_at_call 10; go_must (refine (TextIs a ra TA.out a0 a1 _ (hV _ HB.out)).mono ?_); go_must (rintro e' wj ⟨rfl, hb⟩; replace HB := Aside0.mk (below_step HB.out hb)); clear hb)
    | (go_at_call 8; have t_ := tr; clear t_; go_must (refine (ReadIs ra a 0 RA.out zra _ (hV _ HB.out)).mono ?_); go_must (rintro e' wj ⟨rfl, hb⟩; replace HB := Aside0.mk (below_step HB.out hb)); clear hb tr)
    | (go_at_call 8; go_must (refine (ReadIs s v 7 HR.out hz _ (hV _ HB.out)).mono ?_); go_must (rintro e' wj ⟨rfl, hb⟩; replace HB := Aside0.mk (below_step HB.out hb)); clear hb)
    | (go_at_call 7; go_must (refine (alive _ (hV _ HB.out)).mono ?_); go_must (rintro e' wj ⟨rfl, hb⟩; replace HB := Aside0.mk (below_step HB.out hb)); clear hb))
  first | go_ret | go_ret2 | go_ret3
  exact ⟨rfl, HB.out⟩
set_option maxRecDepth 100000 in
set_option maxHeartbeats 8000000 in
theorem Back_nfd (x : Ip) (hx : IpOk x) (a b : Int) (s : ByteArray) (a0 : 0 ≤ a) (a1 : a < 4294967296) (b0 : 0 ≤ b) (b1 : b < 4294967296) (w : World) (hv : VarsAt w) (hz : s.size ≤ 100) (l : List Op) (hp : putK x = (l, 2)) (v : Int) (v0 : 0 ≤ v) (v1 : v < 4294967296) (hr : readK s = (v, 7)) (ra : ByteArray) (ta : textB a = ra) (ra0 : readK ra = (a, 0)) (zra : ra.size ≤ 100) (rb : ByteArray) (tb : textB b = rb) (hab : ¬ a = b) (hrab : ¬ ra = rb) :
    Calls Tryd.prog 4 #[.agg #[.bool x.h0, .int .u32 x.a0, .bool x.h1, .int .u32 x.a1, .bool x.h2, .int .u32 x.a2], .int .u32 a, .int .u32 b, .string s] w (AliveRet w) := by
  have HV := Aside0.mk hv
  have HB := Aside0.mk (below_alloc (Below.refl w.heap.size w) (.cells #[.bool x.h0, .int .u32 x.a0, .bool x.h1, .int .u32 x.a1, .bool x.h2, .int .u32 x.a2] 30))
  have HI := Aside0.mk (show IpAt (w.alloc (.cells #[.bool x.h0, .int .u32 x.a0, .bool x.h1, .int .u32 x.a1, .bool x.h2, .int .u32 x.a2] 30)) w.heap.size x from blk_new w _)
  have huI := Tryd.underlying30
  have hV : ∀ W, Below w.heap.size w W → VarsAt W := fun W h => HV.out.below h
  have d : decide ((100 : Int) < (s.size : Int)) = false := decide_eq_false (by omega)
  clear hv
  have HX := Aside0.mk hx
  have HP := Aside0.mk hp
  have HR := Aside0.mk hr
  have TA := Aside0.mk ta
  have RA := Aside0.mk ra0
  clear hx hp hr ta ra0
  have TB := Aside0.mk tb
  have dab : (a == b) = false := beq_eq_false_iff_ne.2 hab
  have drab : (ra.toList == rb.toList) = false := beq_eq_false_iff_ne.2 (fun h => hrab (hw_toList_inj h))
  clear tb
  have tx0 : True := trivial
  have tx1 : True := trivial
  have tr : True := trivial
  go_enter Tryd.func4, Tryd.ntmps4
  go_wp2_with (first
    | (go_at_call 12; go_must (refine (PutIs x l 2 HP.out HX.out _ (hV _ HB.out)).mono ?_); go_must (rintro e' wj ⟨vl, rfl, own, hb⟩; replace HB := Aside0.mk (below_step HB.out hb); clear own); clear hb)
    | (go_at_call 10; have t_ := tx0; clear t_; go_must (refine (TextIs a ra TA.out a0 a1 _ (hV _ HB.out)).mono ?_); go_must (rintro e' wj ⟨rfl, hb⟩; replace HB := Aside0.mk (below_step HB.out hb)); clear hb tx0)
    | (go_at_call 10; have t_ := tx1; clear t_; go_must (refine (TextIs a ra TA.out a0 a1 _ (hV _ HB.out)).mono ?_); go_must (rintro e' wj ⟨rfl, hb⟩; replace HB := Aside0.mk (below_step HB.out hb)); clear hb tx1)
    | (go_at_call 10; go_must (refine (TextIs b rb TB.out b0 b1 _ (hV _ HB.out)).mono ?_); go_must (rintro e' wj ⟨rfl, hb⟩; replace HB := Aside0.mk (below_step HB.out hb)); clear hb)
    | (go_at_call 8; have t_ := tr; clear t_; go_must (refine (ReadIs ra a 0 RA.out zra _ (hV _ HB.out)).mono ?_); go_must (rintro e' wj ⟨rfl, hb⟩; replace HB := Aside0.mk (below_step HB.out hb)); clear hb tr)
    | (go_at_call 8; go_must (refine (ReadIs s v 7 HR.out hz _ (hV _ HB.out)).mono ?_); go_must (rintro e' wj ⟨rfl, hb⟩; replace HB := Aside0.mk (below_step HB.out hb)); clear hb)
    | (go_at_call 7; go_must (refine (alive _ (hV _ HB.out)).mono ?_); go_must (rintro e' wj ⟨rfl, hb⟩; replace HB := Aside0.mk (below_step HB.out hb)); clear hb))
  first | go_ret | go_ret2 | go_ret3
  exact ⟨rfl, HB.out⟩
theorem IpcpoptBack_run (x : Ip) (hx : IpOk x) (a b : Int) (s : ByteArray) (a0 : 0 ≤ a) (a1 : a < 4294967296) (b0 : 0 ≤ b) (b1 : b < 4294967296) (w : World) (hv : VarsAt w) :
    Calls Tryd.prog 4 #[.agg #[.bool x.h0, .int .u32 x.a0, .bool x.h1, .int .u32 x.a1, .bool x.h2, .int .u32 x.a2], .int .u32 a, .int .u32 b, .string s] w (AliveRet w) := by
  by_cases hz : s.size ≤ 100
  · have ra0 := readK_text a a0 a1
    have zra : (textB a).size ≤ 100 := Nat.le_trans (text_size a) (by decide)
    have vr : 0 ≤ (readK s).1 ∧ (readK s).1 < 4294967296 := by
      unfold readK
      split
      · exact readA_range s
      · exact ⟨by decide, by decide⟩
    have hr : ∀ e : Int, (readK s).2 = e → readK s = ((readK s).1, e) := fun e h => by rw [← h]
    by_cases hm : may x
    · have hp : putK x = (putL x, 0) := by unfold putK; rw [if_pos hm]
      rcases readK_e s with he | he <;> by_cases hab : a = b
      · subst hab; exact Back_mre x hx a s a0 a1 w hv hz _ hp (got x hx hm) (putL_le x) (putL_sz x) _ vr.1 vr.2 (hr _ he) (readK_ok he) _ rfl ra0 zra
      · exact Back_mrd x hx a b s a0 a1 b0 b1 w hv hz _ hp (got x hx hm) (putL_le x) (putL_sz x) _ vr.1 vr.2 (hr _ he) (readK_ok he) _ rfl ra0 zra _ rfl hab (fun h => hab (text_inj a0 a1 b0 b1 h))
      · subst hab; exact Back_mfe x hx a s a0 a1 w hv hz _ hp (got x hx hm) (putL_le x) (putL_sz x) _ vr.1 vr.2 (hr _ he) _ rfl ra0 zra
      · exact Back_mfd x hx a b s a0 a1 b0 b1 w hv hz _ hp (got x hx hm) (putL_le x) (putL_sz x) _ vr.1 vr.2 (hr _ he) _ rfl ra0 zra _ rfl hab (fun h => hab (text_inj a0 a1 b0 b1 h))
    · have hp : putK x = ([], 2) := by unfold putK; rw [if_neg hm]
      rcases readK_e s with he | he <;> by_cases hab : a = b
      · subst hab; exact Back_nre x hx a s a0 a1 w hv hz _ hp _ vr.1 vr.2 (hr _ he) (readK_ok he) _ rfl ra0 zra
      · exact Back_nrd x hx a b s a0 a1 b0 b1 w hv hz _ hp _ vr.1 vr.2 (hr _ he) (readK_ok he) _ rfl ra0 zra _ rfl hab (fun h => hab (text_inj a0 a1 b0 b1 h))
      · subst hab; exact Back_nfe x hx a s a0 a1 w hv hz _ hp _ vr.1 vr.2 (hr _ he) _ rfl ra0 zra
      · exact Back_nfd x hx a b s a0 a1 b0 b1 w hv hz _ hp _ vr.1 vr.2 (hr _ he) _ rfl ra0 zra _ rfl hab (fun h => hab (text_inj a0 a1 b0 b1 h))
  · exact Back_big x hx a b s a0 a1 b0 b1 w hv (by omega)
end Go.Proofs.YtemddnccomeibaaDoorHIp
