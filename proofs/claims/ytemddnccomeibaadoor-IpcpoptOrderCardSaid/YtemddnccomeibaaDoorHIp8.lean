/- ipcpopt: what options say. -/
import Derived.Test.YtemddnccomeibaaDoorHIp7
import Derived.Deep.DeepCutAuto
namespace Go.Proofs.YtemddnccomeibaaDoorHIp
open Go.RowKit Go.Proofs.YtemddnccomeibaaDoorW.PrintWords Go.Proofs.YtemddnccomeibaaDoorHW Go.Proofs.YtemddnccomeibaaDoorHG Go.Proofs.YtemddnccomeibaaDoor.PG10
set_option linter.unusedVariables false
set_option linter.unusedSimpArgs false
theorem kfn_func (t : Int) : ∃ n, kfn t = .func (.func n) #[] #[] := by unfold kfn; split; (· exact ⟨_, rfl⟩); (· split <;> exact ⟨_, rfl⟩)
set_option maxRecDepth 100000 in
theorem Good (x : Op) (b : Bool) (hb : decide (good x) = b) (hx : x.f1.size ≤ 140737488351232) (w : World) (hv : VarsAt w) :
    Calls Tryd.prog 17 #[.agg #[.int .u8 x.f0, .string x.f1]] w fun e w' => e = .returned (.bool b) ∧ Below w.heap.size w w' := by
  have HV := Aside0.mk hv
  have HB := Aside0.mk (below_alloc (Below.refl w.heap.size w) (.cells #[.int .u8 x.f0, .string x.f1] 38))
  have huO := Tryd.underlying38
  have hw : ∀ W, Below w.heap.size w W → VarsAt W := fun W h => HV.out.below h
  by_cases c : good x
  · obtain ⟨n, hn⟩ := kfn_func x.f0
    have HF := Aside0.mk (show findV x = .tuple #[.agg #[.int .u8 x.f0, .func (.func n) #[] #[]], .int .u32 (value4 x.f1), .bool b] by subst hb; unfold findV; rw [if_pos c, hn, decide_eq_true c])
    clear hv hb c hn
    go_enter Tryd.func17, Tryd.ntmps17
    go_wp2_with (go_at_call 27; go_must (refine (Find x hx _ (hw _ HB.out)).mono ?_); rw [HF.out]; go_must (rintro e w1 ⟨rfl, hb⟩; replace HB := Aside0.mk (below_step HB.out hb)); clear hb)
    first | go_ret | go_ret2 | go_ret3
    exact ⟨rfl, (by repeat (first | exact HB.out | apply below_alloc))⟩
  · have HF := Aside0.mk (show findV x = .tuple #[.agg #[.int .u8 0, .nilFunc], .int .u32 0, .bool b] by subst hb; unfold findV; rw [if_neg c, decide_eq_false c])
    clear hv hb c
    go_enter Tryd.func17, Tryd.ntmps17
    go_wp2_with (go_at_call 27; go_must (refine (Find x hx _ (hw _ HB.out)).mono ?_); rw [HF.out]; go_must (rintro e w1 ⟨rfl, hb⟩; replace HB := Aside0.mk (below_step HB.out hb)); clear hb)
    first | go_ret | go_ret2 | go_ret3
    exact ⟨rfl, (by repeat (first | exact HB.out | apply below_alloc))⟩
def hasI (x : Ip) (t : Int) : Bool := if t = 3 then x.h0 else if t = 129 then x.h1 else x.h2
def setI (x : Ip) (t v : Int) : Ip := if t = 3 then { x with h0 := true, a0 := v } else if t = 129 then { x with h1 := true, a1 := v } else { x with h2 := true, a2 := v }
def getF : Ip → List Op → List Op → Ip × List Op × Int
  | x, odd, [] => (x, odd, 0)
  | x, odd, o :: r => if good o then (if hasI x o.f0 = true then (zIp, [], 9) else getF (setI x o.f0 (value4 o.f1)) odd r) else getF x (odd ++ [o]) r
def getK (l : List Op) : Ip × List Op × Int := getF zIp [] l
def ipV (x : Ip) : Value := .agg #[.bool x.h0, .int .u32 x.a0, .bool x.h1, .int .u32 x.a1, .bool x.h2, .int .u32 x.a2]
theorem get_results (tm : Array Value) (W : World) (B : Nat) (x : Ip) (v e : Value) (h2 : tm.getD 2 undef = .pointer (some ⟨B, 0, none⟩)) (h3 : tm.getD 3 undef = v) (h4 : tm.getD 4 undef = e) (hx : IpAt W B x) :
    (results Tryd.f13 tm).run Tryd.prog W = .ok (.tuple #[ipV x, v, e]) W := by
  have huI := Tryd.underlying30
  obtain ⟨x0, x1, x2, x3, x4, x5⟩ := hx.cells
  unfold results
  rw [Tryd.results13]
  subst h3 h4
  simp [go_sem, h2, ipV, x0, x1, x2, x3, x4, x5, -Array.getD_eq_getD_getElem?]
def GetPost (l : List Op) (w : World) (e : Ending) (w' : World) : Prop := ∃ v, e = .returned (.tuple #[ipV (getK l).1, v, .int .i64 (getK l).2.2]) ∧ w'.ownsRow w.heap.size 38 2 v (getK l).2.1.length ((getK l).2.1.flatMap cel) ∧ Below w.heap.size w w'
theorem rd_of {l : List Op} {i : Nat} {p : Op} (h : l[i]? = some p) : rd_T38 l (i : Int) = p := by
  obtain ⟨hl, e⟩ := List.getElem?_eq_some_iff.1 h
  unfold rd_T38
  rw [Int.toNat_natCast, List.getD_eq_getElem?_getD, h]; rfl
theorem C_alloc {W : World} {A : Option Addr} {n : Nat} {xs : List Op} (h : Kd.C k38 W A n xs) (o : Obj) : Kd.C k38 (W.alloc o) A n xs := Kd.C_below h ((Below.refl _ W).alloc (Nat.le_refl _) o)
set_option maxRecDepth 100000 in
set_option maxHeartbeats 8000000 in
theorem Get (A0 : Option Addr) (c0 : Nat) (l : List Op) (w : World) (hv : VarsAt w) (hr : Kd.C k38 w A0 l.length l) (hc : l.length ≤ c0) (hl : l.length ≤ 100000) (hn : ∀ x ∈ l, x.f1.size ≤ 140737488351232) :
    Calls Tryd.prog 13 #[.slice A0 l.length c0] w (GetPost l w) := by
  have HV := Aside0.mk hv
  have HR0 := Aside0.mk hr
  have HN := Aside0.mk hn
  have huO := Tryd.underlying38
  have huI := Tryd.underlying30
  have huK := Tryd.underlying62
  clear hv hr hn
  go_enter Tryd.func13, Tryd.ntmps13
  go_wp2_with fail
  go_loopw [3, 14] (fun v3 v14 wr => ∃ (i : Nat) (x : Ip) (odd : List Op), i ≤ l.length ∧ v14 = .int .i64 (i : Int) ∧ odd.length ≤ i ∧ Aside0 (getK l = getF x odd (l.drop i)) ∧ Aside0 (IpAt wr w.heap.size x) ∧ Aside0 (wr.ownsRow (w.heap.size + 1) 38 2 v3 odd.length (odd.flatMap cel)) ∧ Aside0 (Below w.heap.size w wr)) (fun _ v14 _ => l.length - (RowKit.intOf v14).toNat)
  case atStart => exact ⟨0, zIp, [], by omega, rfl, by simp, ⟨rfl⟩, ⟨blk_new w _⟩, ⟨World.ownsRow_nil _ _ _ _⟩, ⟨below_alloc (Below.refl _ _) _⟩⟩
  case round =>
    obtain ⟨i, x, odd, hi, rfl, ho, HE, HX, OWN, HB⟩ := hrel
    by_cases hlt : i < l.length
    · obtain ⟨p, hp⟩ : ∃ p, l[i]? = some p := ⟨_, List.getElem?_eq_getElem hlt⟩
      have HR := Aside0.mk (Kd.C_below HR0.out HB.out)
      obtain ⟨ad, rfl, q0, q1⟩ := at_T38 HR.out (i : Int) (by omega) (by omega)
      rw [rd_of hp, Int.toNat_natCast] at q0 q1
      have hlt' : (i : Int) < (l.length : Int) := by omega
      have hps := HN.out p (List.mem_of_getElem? hp)
      have hdr : l.drop i = p :: l.drop (i + 1) := by rw [List.drop_eq_getElem_cons hlt]; congr 1; exact Option.some.inj ((List.getElem?_eq_getElem hlt).symm.trans hp)
      have HE2 := Aside0.mk (show getK l = (if good p then (if hasI x p.f0 = true then (zIp, [], 9) else getF (setI x p.f0 (value4 p.f1)) odd (l.drop (i + 1))) else getF x (odd ++ [p]) (l.drop (i + 1))) by rw [HE.out, hdr]; rfl)
      have HVr := Aside0.mk (fun W (h : Below w.heap.size w W) => HV.out.below h)
      clear hp hdr HE
      obtain ⟨w1, hw1⟩ : ∃ w1, wr.alloc (.cells #[.int .u8 p.f0, .string p.f1] 38) = w1 := ⟨_, rfl⟩
      have HB1 := Aside0.mk (show Below w.heap.size w w1 from by rw [← hw1]; exact below_alloc HB.out _)
      have HX1 := Aside0.mk (show IpAt w1 w.heap.size x from by rw [← hw1]; exact blk_alloc HX.out _)
      have OWN1 := Aside0.mk (show w1.ownsRow (w.heap.size + 1) 38 2 u3 odd.length (odd.flatMap cel) from by rw [← hw1]; exact OWN.out.alloc _)
      have HP1 := Aside0.mk (show OpAt w1 wr.heap.size p from by rw [← hw1]; exact blk_new wr _)
      obtain ⟨o0, o1⟩ := HP1.out.cells
      by_cases c : good p
      · rcases c.1 with ht | ht | ht
        · have HF := Aside0.mk (show findV p = .tuple #[.agg #[.int .u8 p.f0, .func (.func 91) #[] #[]], .int .u32 (value4 p.f1), .bool true] by unfold findV; rw [if_pos c]; unfold kfn; rw [ht]; rfl)
          rw [if_pos c, show hasI x p.f0 = x.h0 by unfold hasI; rw [ht]; rfl] at HE2
          have HT := Aside0.mk ht
          clear c ht
          by_cases e : x.h0 = true
          · rw [if_pos e] at HE2
            have E := Aside0.mk e
            clear e
            as_aux_lemma =>
              go_wp2_with (first | (go_at_call 27; go_must (refine (Find p hps _ (HVr.out _ HB1.out)).mono ?_); rw [HF.out]; go_must (rintro e wf ⟨rfl, hb⟩; have HXf := HX1.out.below hb; have OWNf := pw_own_below OWN1.out hb; have HBf := below_step HB1.out hb; have HPf := HP1.out.below hb; obtain ⟨p0, p1⟩ := HPf.cells; have zp := blk_lt HPf; have HB2 := Aside0.mk (below_alloc HBf (.cells #[.int .u8 p.f0, .func (.func 91) #[] #[]] 62)); have HX2 := Aside0.mk (show IpAt (wf.alloc (.cells #[.int .u8 p.f0, .func (.func 91) #[] #[]] 62)) w.heap.size x from blk_alloc HXf _); have OWN2 := Aside0.mk (OWNf.alloc (.cells #[.int .u8 p.f0, .func (.func 91) #[] #[]] 62)); have HS2 := Aside0.mk (show w.heap.size + 1 ≤ (wf.alloc (.cells #[.int .u8 p.f0, .func (.func 91) #[] #[]] 62)).heap.size from Nat.succ_le_of_lt (blk_lt HX2.out)); obtain ⟨x0, x1, x2, x3, x4, x5⟩ := HXf.cells; have zx := blk_lt HXf); clear hb HXf OWNf HBf HPf) | (go_at_call 91; go_must (refine (kind0 w.heap.size _ (blk_lt HX2.out)).mono ?_); go_must (rintro e wk ⟨rfl, hb⟩; have HXk := HX2.out.below hb; have HX3 := Aside0.mk HXk; have OWN3 := Aside0.mk (pw_own_below OWN2.out hb); have HB3 := Aside0.mk (below_step HB2.out hb); clear x0 x1 x2 x3 x4 x5; obtain ⟨x0, x1, x2, x3, x4, x5⟩ := HXk.cells; clear zx; have zx := blk_lt HXk; rw [E.out] at x0; have fz0 := blk_frozen HXk 0; have fz1 := blk_frozen HXk 1; have fz2 := blk_frozen HXk 2; have fz3 := blk_frozen HXk 3; have fz4 := blk_frozen HXk 4; have fz5 := blk_frozen HXk 5); clear hb HXk))
              have HZ : IpAt (World.setCell (World.setCell (World.setCell (World.setCell (World.setCell (World.setCell wk ⟨w.heap.size, 0, none⟩ (.bool false)) ⟨w.heap.size, 1, none⟩ (.int .u32 0)) ⟨w.heap.size, 2, none⟩ (.bool false)) ⟨w.heap.size, 3, none⟩ (.int .u32 0)) ⟨w.heap.size, 4, none⟩ (.bool false)) ⟨w.heap.size, 5, none⟩ (.int .u32 0)) w.heap.size zIp := (blk_set (blk_set (blk_set (blk_set (blk_set (blk_set HX3.out 0 _) 1 _) 2 _) 3 _) 4 _) 5 _).trans rfl
              have HBz : Below w.heap.size w (World.setCell (World.setCell (World.setCell (World.setCell (World.setCell (World.setCell wk ⟨w.heap.size, 0, none⟩ (.bool false)) ⟨w.heap.size, 1, none⟩ (.int .u32 0)) ⟨w.heap.size, 2, none⟩ (.bool false)) ⟨w.heap.size, 3, none⟩ (.int .u32 0)) ⟨w.heap.size, 4, none⟩ (.bool false)) ⟨w.heap.size, 5, none⟩ (.int .u32 0)) := by repeat (first | (with_reducible exact HB3.out) | (refine Below.setCell ?_ (by simp) _))
              clear x0 x1 x2 x3 x4 x5 zx fz0 fz1 fz2 fz3 fz4 fz5
              generalize (World.setCell (World.setCell (World.setCell (World.setCell (World.setCell (World.setCell wk ⟨w.heap.size, 0, none⟩ (.bool false)) ⟨w.heap.size, 1, none⟩ (.int .u32 0)) ⟨w.heap.size, 2, none⟩ (.bool false)) ⟨w.heap.size, 3, none⟩ (.int .u32 0)) ⟨w.heap.size, 4, none⟩ (.bool false)) ⟨w.heap.size, 5, none⟩ (.int .u32 0)) = wz at HZ HBz ⊢
              have E2 := HE2.out
              have HBz' := Aside0.mk HBz
              have HZ' := Aside0.mk HZ
              clear HZ HBz
              refine bodyPost_ret (v := .tuple #[ipV zIp, .slice none 0 0, .int .i64 9]) (get_results _ wz w.heap.size zIp _ _ rfl rfl rfl HZ'.out) rfl ?_
              unfold GetPost
              rw [E2]
              exact ⟨_, rfl, World.ownsRow_nil _ _ _ _, HBz'.out⟩
          · replace e : x.h0 = false := by simpa using e
            rw [if_neg (by rw [e]; simp), show setI x p.f0 (value4 p.f1) = { x with h0 := true, a0 := value4 p.f1 } by unfold setI; rw [HT.out]; rfl] at HE2
            have E := Aside0.mk e
            clear e
            as_aux_lemma =>
              go_wp2_with (first | (go_at_call 27; go_must (refine (Find p hps _ (HVr.out _ HB1.out)).mono ?_); rw [HF.out]; go_must (rintro e wf ⟨rfl, hb⟩; have HXf := HX1.out.below hb; have OWNf := pw_own_below OWN1.out hb; have HBf := below_step HB1.out hb; have HPf := HP1.out.below hb; obtain ⟨p0, p1⟩ := HPf.cells; have zp := blk_lt HPf; have HB2 := Aside0.mk (below_alloc HBf (.cells #[.int .u8 p.f0, .func (.func 91) #[] #[]] 62)); have HX2 := Aside0.mk (show IpAt (wf.alloc (.cells #[.int .u8 p.f0, .func (.func 91) #[] #[]] 62)) w.heap.size x from blk_alloc HXf _); have OWN2 := Aside0.mk (OWNf.alloc (.cells #[.int .u8 p.f0, .func (.func 91) #[] #[]] 62)); have HS2 := Aside0.mk (show w.heap.size + 1 ≤ (wf.alloc (.cells #[.int .u8 p.f0, .func (.func 91) #[] #[]] 62)).heap.size from Nat.succ_le_of_lt (blk_lt HX2.out)); obtain ⟨x0, x1, x2, x3, x4, x5⟩ := HXf.cells; have zx := blk_lt HXf); clear hb HXf OWNf HBf HPf) | (go_at_call 91; go_must (refine (kind0 w.heap.size _ (blk_lt HX2.out)).mono ?_); go_must (rintro e wk ⟨rfl, hb⟩; have HXk := HX2.out.below hb; have HX3 := Aside0.mk HXk; have OWN3 := Aside0.mk (pw_own_below OWN2.out hb); have HB3 := Aside0.mk (below_step HB2.out hb); clear x0 x1 x2 x3 x4 x5; obtain ⟨x0, x1, x2, x3, x4, x5⟩ := HXk.cells; clear zx; have zx := blk_lt HXk; rw [E.out] at x0; have fz0 := blk_frozen HXk 0; have fz1 := blk_frozen HXk 1; have fz2 := blk_frozen HXk 2; have fz3 := blk_frozen HXk 3; have fz4 := blk_frozen HXk 4; have fz5 := blk_frozen HXk 5); clear hb HXk))
              go_roundw
              case rel => exact ⟨i + 1, { x with h0 := true, a0 := value4 p.f1 }, odd, by omega, by go_num, by omega, HE2, ⟨(blk_set (blk_set HX3.out 0 _) 1 _).trans rfl⟩, ⟨by repeat (first | (with_reducible exact OWN3.out) | (refine ownsRow_setCell_below ?_ (by simp) _))⟩, ⟨by repeat (first | (with_reducible exact HB3.out) | (refine Below.setCell ?_ (by simp) _))⟩⟩
              case measure => simp [RowKit.intOf]; omega
        · have HF := Aside0.mk (show findV p = .tuple #[.agg #[.int .u8 p.f0, .func (.func 92) #[] #[]], .int .u32 (value4 p.f1), .bool true] by unfold findV; rw [if_pos c]; unfold kfn; rw [ht]; rfl)
          rw [if_pos c, show hasI x p.f0 = x.h1 by unfold hasI; rw [ht]; rfl] at HE2
          have HT := Aside0.mk ht
          clear c ht
          by_cases e : x.h1 = true
          · rw [if_pos e] at HE2
            have E := Aside0.mk e
            clear e
            as_aux_lemma =>
              go_wp2_with (first | (go_at_call 27; go_must (refine (Find p hps _ (HVr.out _ HB1.out)).mono ?_); rw [HF.out]; go_must (rintro e wf ⟨rfl, hb⟩; have HXf := HX1.out.below hb; have OWNf := pw_own_below OWN1.out hb; have HBf := below_step HB1.out hb; have HPf := HP1.out.below hb; obtain ⟨p0, p1⟩ := HPf.cells; have zp := blk_lt HPf; have HB2 := Aside0.mk (below_alloc HBf (.cells #[.int .u8 p.f0, .func (.func 92) #[] #[]] 62)); have HX2 := Aside0.mk (show IpAt (wf.alloc (.cells #[.int .u8 p.f0, .func (.func 92) #[] #[]] 62)) w.heap.size x from blk_alloc HXf _); have OWN2 := Aside0.mk (OWNf.alloc (.cells #[.int .u8 p.f0, .func (.func 92) #[] #[]] 62)); have HS2 := Aside0.mk (show w.heap.size + 1 ≤ (wf.alloc (.cells #[.int .u8 p.f0, .func (.func 92) #[] #[]] 62)).heap.size from Nat.succ_le_of_lt (blk_lt HX2.out)); obtain ⟨x0, x1, x2, x3, x4, x5⟩ := HXf.cells; have zx := blk_lt HXf); clear hb HXf OWNf HBf HPf) | (go_at_call 92; go_must (refine (kind1 w.heap.size _ (blk_lt HX2.out)).mono ?_); go_must (rintro e wk ⟨rfl, hb⟩; have HXk := HX2.out.below hb; have HX3 := Aside0.mk HXk; have OWN3 := Aside0.mk (pw_own_below OWN2.out hb); have HB3 := Aside0.mk (below_step HB2.out hb); clear x0 x1 x2 x3 x4 x5; obtain ⟨x0, x1, x2, x3, x4, x5⟩ := HXk.cells; clear zx; have zx := blk_lt HXk; rw [E.out] at x2; have fz0 := blk_frozen HXk 0; have fz1 := blk_frozen HXk 1; have fz2 := blk_frozen HXk 2; have fz3 := blk_frozen HXk 3; have fz4 := blk_frozen HXk 4; have fz5 := blk_frozen HXk 5); clear hb HXk))
              have HZ : IpAt (World.setCell (World.setCell (World.setCell (World.setCell (World.setCell (World.setCell wk ⟨w.heap.size, 0, none⟩ (.bool false)) ⟨w.heap.size, 1, none⟩ (.int .u32 0)) ⟨w.heap.size, 2, none⟩ (.bool false)) ⟨w.heap.size, 3, none⟩ (.int .u32 0)) ⟨w.heap.size, 4, none⟩ (.bool false)) ⟨w.heap.size, 5, none⟩ (.int .u32 0)) w.heap.size zIp := (blk_set (blk_set (blk_set (blk_set (blk_set (blk_set HX3.out 0 _) 1 _) 2 _) 3 _) 4 _) 5 _).trans rfl
              have HBz : Below w.heap.size w (World.setCell (World.setCell (World.setCell (World.setCell (World.setCell (World.setCell wk ⟨w.heap.size, 0, none⟩ (.bool false)) ⟨w.heap.size, 1, none⟩ (.int .u32 0)) ⟨w.heap.size, 2, none⟩ (.bool false)) ⟨w.heap.size, 3, none⟩ (.int .u32 0)) ⟨w.heap.size, 4, none⟩ (.bool false)) ⟨w.heap.size, 5, none⟩ (.int .u32 0)) := by repeat (first | (with_reducible exact HB3.out) | (refine Below.setCell ?_ (by simp) _))
              clear x0 x1 x2 x3 x4 x5 zx fz0 fz1 fz2 fz3 fz4 fz5
              generalize (World.setCell (World.setCell (World.setCell (World.setCell (World.setCell (World.setCell wk ⟨w.heap.size, 0, none⟩ (.bool false)) ⟨w.heap.size, 1, none⟩ (.int .u32 0)) ⟨w.heap.size, 2, none⟩ (.bool false)) ⟨w.heap.size, 3, none⟩ (.int .u32 0)) ⟨w.heap.size, 4, none⟩ (.bool false)) ⟨w.heap.size, 5, none⟩ (.int .u32 0)) = wz at HZ HBz ⊢
              have E2 := HE2.out
              have HBz' := Aside0.mk HBz
              have HZ' := Aside0.mk HZ
              clear HZ HBz
              refine bodyPost_ret (v := .tuple #[ipV zIp, .slice none 0 0, .int .i64 9]) (get_results _ wz w.heap.size zIp _ _ rfl rfl rfl HZ'.out) rfl ?_
              unfold GetPost
              rw [E2]
              exact ⟨_, rfl, World.ownsRow_nil _ _ _ _, HBz'.out⟩
          · replace e : x.h1 = false := by simpa using e
            rw [if_neg (by rw [e]; simp), show setI x p.f0 (value4 p.f1) = { x with h1 := true, a1 := value4 p.f1 } by unfold setI; rw [HT.out]; rfl] at HE2
            have E := Aside0.mk e
            clear e
            as_aux_lemma =>
              go_wp2_with (first | (go_at_call 27; go_must (refine (Find p hps _ (HVr.out _ HB1.out)).mono ?_); rw [HF.out]; go_must (rintro e wf ⟨rfl, hb⟩; have HXf := HX1.out.below hb; have OWNf := pw_own_below OWN1.out hb; have HBf := below_step HB1.out hb; have HPf := HP1.out.below hb; obtain ⟨p0, p1⟩ := HPf.cells; have zp := blk_lt HPf; have HB2 := Aside0.mk (below_alloc HBf (.cells #[.int .u8 p.f0, .func (.func 92) #[] #[]] 62)); have HX2 := Aside0.mk (show IpAt (wf.alloc (.cells #[.int .u8 p.f0, .func (.func 92) #[] #[]] 62)) w.heap.size x from blk_alloc HXf _); have OWN2 := Aside0.mk (OWNf.alloc (.cells #[.int .u8 p.f0, .func (.func 92) #[] #[]] 62)); have HS2 := Aside0.mk (show w.heap.size + 1 ≤ (wf.alloc (.cells #[.int .u8 p.f0, .func (.func 92) #[] #[]] 62)).heap.size from Nat.succ_le_of_lt (blk_lt HX2.out)); obtain ⟨x0, x1, x2, x3, x4, x5⟩ := HXf.cells; have zx := blk_lt HXf); clear hb HXf OWNf HBf HPf) | (go_at_call 92; go_must (refine (kind1 w.heap.size _ (blk_lt HX2.out)).mono ?_); go_must (rintro e wk ⟨rfl, hb⟩; have HXk := HX2.out.below hb; have HX3 := Aside0.mk HXk; have OWN3 := Aside0.mk (pw_own_below OWN2.out hb); have HB3 := Aside0.mk (below_step HB2.out hb); clear x0 x1 x2 x3 x4 x5; obtain ⟨x0, x1, x2, x3, x4, x5⟩ := HXk.cells; clear zx; have zx := blk_lt HXk; rw [E.out] at x2; have fz0 := blk_frozen HXk 0; have fz1 := blk_frozen HXk 1; have fz2 := blk_frozen HXk 2; have fz3 := blk_frozen HXk 3; have fz4 := blk_frozen HXk 4; have fz5 := blk_frozen HXk 5); clear hb HXk))
              go_roundw
              case rel => exact ⟨i + 1, { x with h1 := true, a1 := value4 p.f1 }, odd, by omega, by go_num, by omega, HE2, ⟨(blk_set (blk_set HX3.out 2 _) 3 _).trans rfl⟩, ⟨by repeat (first | (with_reducible exact OWN3.out) | (refine ownsRow_setCell_below ?_ (by simp) _))⟩, ⟨by repeat (first | (with_reducible exact HB3.out) | (refine Below.setCell ?_ (by simp) _))⟩⟩
              case measure => simp [RowKit.intOf]; omega
        · have HF := Aside0.mk (show findV p = .tuple #[.agg #[.int .u8 p.f0, .func (.func 93) #[] #[]], .int .u32 (value4 p.f1), .bool true] by unfold findV; rw [if_pos c]; unfold kfn; rw [ht]; rfl)
          rw [if_pos c, show hasI x p.f0 = x.h2 by unfold hasI; rw [ht]; rfl] at HE2
          have HT := Aside0.mk ht
          clear c ht
          by_cases e : x.h2 = true
          · rw [if_pos e] at HE2
            have E := Aside0.mk e
            clear e
            as_aux_lemma =>
              go_wp2_with (first | (go_at_call 27; go_must (refine (Find p hps _ (HVr.out _ HB1.out)).mono ?_); rw [HF.out]; go_must (rintro e wf ⟨rfl, hb⟩; have HXf := HX1.out.below hb; have OWNf := pw_own_below OWN1.out hb; have HBf := below_step HB1.out hb; have HPf := HP1.out.below hb; obtain ⟨p0, p1⟩ := HPf.cells; have zp := blk_lt HPf; have HB2 := Aside0.mk (below_alloc HBf (.cells #[.int .u8 p.f0, .func (.func 93) #[] #[]] 62)); have HX2 := Aside0.mk (show IpAt (wf.alloc (.cells #[.int .u8 p.f0, .func (.func 93) #[] #[]] 62)) w.heap.size x from blk_alloc HXf _); have OWN2 := Aside0.mk (OWNf.alloc (.cells #[.int .u8 p.f0, .func (.func 93) #[] #[]] 62)); have HS2 := Aside0.mk (show w.heap.size + 1 ≤ (wf.alloc (.cells #[.int .u8 p.f0, .func (.func 93) #[] #[]] 62)).heap.size from Nat.succ_le_of_lt (blk_lt HX2.out)); obtain ⟨x0, x1, x2, x3, x4, x5⟩ := HXf.cells; have zx := blk_lt HXf); clear hb HXf OWNf HBf HPf) | (go_at_call 93; go_must (refine (kind2 w.heap.size _ (blk_lt HX2.out)).mono ?_); go_must (rintro e wk ⟨rfl, hb⟩; have HXk := HX2.out.below hb; have HX3 := Aside0.mk HXk; have OWN3 := Aside0.mk (pw_own_below OWN2.out hb); have HB3 := Aside0.mk (below_step HB2.out hb); clear x0 x1 x2 x3 x4 x5; obtain ⟨x0, x1, x2, x3, x4, x5⟩ := HXk.cells; clear zx; have zx := blk_lt HXk; rw [E.out] at x4; have fz0 := blk_frozen HXk 0; have fz1 := blk_frozen HXk 1; have fz2 := blk_frozen HXk 2; have fz3 := blk_frozen HXk 3; have fz4 := blk_frozen HXk 4; have fz5 := blk_frozen HXk 5); clear hb HXk))
              have HZ : IpAt (World.setCell (World.setCell (World.setCell (World.setCell (World.setCell (World.setCell wk ⟨w.heap.size, 0, none⟩ (.bool false)) ⟨w.heap.size, 1, none⟩ (.int .u32 0)) ⟨w.heap.size, 2, none⟩ (.bool false)) ⟨w.heap.size, 3, none⟩ (.int .u32 0)) ⟨w.heap.size, 4, none⟩ (.bool false)) ⟨w.heap.size, 5, none⟩ (.int .u32 0)) w.heap.size zIp := (blk_set (blk_set (blk_set (blk_set (blk_set (blk_set HX3.out 0 _) 1 _) 2 _) 3 _) 4 _) 5 _).trans rfl
              have HBz : Below w.heap.size w (World.setCell (World.setCell (World.setCell (World.setCell (World.setCell (World.setCell wk ⟨w.heap.size, 0, none⟩ (.bool false)) ⟨w.heap.size, 1, none⟩ (.int .u32 0)) ⟨w.heap.size, 2, none⟩ (.bool false)) ⟨w.heap.size, 3, none⟩ (.int .u32 0)) ⟨w.heap.size, 4, none⟩ (.bool false)) ⟨w.heap.size, 5, none⟩ (.int .u32 0)) := by repeat (first | (with_reducible exact HB3.out) | (refine Below.setCell ?_ (by simp) _))
              clear x0 x1 x2 x3 x4 x5 zx fz0 fz1 fz2 fz3 fz4 fz5
              generalize (World.setCell (World.setCell (World.setCell (World.setCell (World.setCell (World.setCell wk ⟨w.heap.size, 0, none⟩ (.bool false)) ⟨w.heap.size, 1, none⟩ (.int .u32 0)) ⟨w.heap.size, 2, none⟩ (.bool false)) ⟨w.heap.size, 3, none⟩ (.int .u32 0)) ⟨w.heap.size, 4, none⟩ (.bool false)) ⟨w.heap.size, 5, none⟩ (.int .u32 0)) = wz at HZ HBz ⊢
              have E2 := HE2.out
              have HBz' := Aside0.mk HBz
              have HZ' := Aside0.mk HZ
              clear HZ HBz
              refine bodyPost_ret (v := .tuple #[ipV zIp, .slice none 0 0, .int .i64 9]) (get_results _ wz w.heap.size zIp _ _ rfl rfl rfl HZ'.out) rfl ?_
              unfold GetPost
              rw [E2]
              exact ⟨_, rfl, World.ownsRow_nil _ _ _ _, HBz'.out⟩
          · replace e : x.h2 = false := by simpa using e
            rw [if_neg (by rw [e]; simp), show setI x p.f0 (value4 p.f1) = { x with h2 := true, a2 := value4 p.f1 } by unfold setI; rw [HT.out]; rfl] at HE2
            have E := Aside0.mk e
            clear e
            as_aux_lemma =>
              go_wp2_with (first | (go_at_call 27; go_must (refine (Find p hps _ (HVr.out _ HB1.out)).mono ?_); rw [HF.out]; go_must (rintro e wf ⟨rfl, hb⟩; have HXf := HX1.out.below hb; have OWNf := pw_own_below OWN1.out hb; have HBf := below_step HB1.out hb; have HPf := HP1.out.below hb; obtain ⟨p0, p1⟩ := HPf.cells; have zp := blk_lt HPf; have HB2 := Aside0.mk (below_alloc HBf (.cells #[.int .u8 p.f0, .func (.func 93) #[] #[]] 62)); have HX2 := Aside0.mk (show IpAt (wf.alloc (.cells #[.int .u8 p.f0, .func (.func 93) #[] #[]] 62)) w.heap.size x from blk_alloc HXf _); have OWN2 := Aside0.mk (OWNf.alloc (.cells #[.int .u8 p.f0, .func (.func 93) #[] #[]] 62)); have HS2 := Aside0.mk (show w.heap.size + 1 ≤ (wf.alloc (.cells #[.int .u8 p.f0, .func (.func 93) #[] #[]] 62)).heap.size from Nat.succ_le_of_lt (blk_lt HX2.out)); obtain ⟨x0, x1, x2, x3, x4, x5⟩ := HXf.cells; have zx := blk_lt HXf); clear hb HXf OWNf HBf HPf) | (go_at_call 93; go_must (refine (kind2 w.heap.size _ (blk_lt HX2.out)).mono ?_); go_must (rintro e wk ⟨rfl, hb⟩; have HXk := HX2.out.below hb; have HX3 := Aside0.mk HXk; have OWN3 := Aside0.mk (pw_own_below OWN2.out hb); have HB3 := Aside0.mk (below_step HB2.out hb); clear x0 x1 x2 x3 x4 x5; obtain ⟨x0, x1, x2, x3, x4, x5⟩ := HXk.cells; clear zx; have zx := blk_lt HXk; rw [E.out] at x4; have fz0 := blk_frozen HXk 0; have fz1 := blk_frozen HXk 1; have fz2 := blk_frozen HXk 2; have fz3 := blk_frozen HXk 3; have fz4 := blk_frozen HXk 4; have fz5 := blk_frozen HXk 5); clear hb HXk))
              go_roundw
              case rel => exact ⟨i + 1, { x with h2 := true, a2 := value4 p.f1 }, odd, by omega, by go_num, by omega, HE2, ⟨(blk_set (blk_set HX3.out 4 _) 5 _).trans rfl⟩, ⟨by repeat (first | (with_reducible exact OWN3.out) | (refine ownsRow_setCell_below ?_ (by simp) _))⟩, ⟨by repeat (first | (with_reducible exact HB3.out) | (refine Below.setCell ?_ (by simp) _))⟩⟩
              case measure => simp [RowKit.intOf]; omega
      · have HF := Aside0.mk (show findV p = .tuple #[.agg #[.int .u8 0, .nilFunc], .int .u32 0, .bool false] by unfold findV; rw [if_neg c])
        rw [if_neg c] at HE2
        clear c
        have f2 : (odd.length + 1) * 24 ≤ 140737488355328 := by omega
        as_aux_lemma =>
          go_wp2_with (first
            | (go_at_call 27; go_must (refine (Find p hps _ (HVr.out _ HB1.out)).mono ?_); rw [HF.out]; go_must (rintro e wf ⟨rfl, hb⟩; have HXf := HX1.out.below hb; have OWNf := pw_own_below OWN1.out hb; have HBf := below_step HB1.out hb; have HPf := HP1.out.below hb; obtain ⟨p0, p1⟩ := HPf.cells; have zp := blk_lt HPf; have HB2 := Aside0.mk (below_alloc HBf (.cells #[.int .u8 0, .nilFunc] 62)); have HX2 := Aside0.mk (show IpAt (wf.alloc (.cells #[.int .u8 0, .nilFunc] 62)) w.heap.size x from blk_alloc HXf _); have OWN2 := Aside0.mk (OWNf.alloc (.cells #[.int .u8 0, .nilFunc] 62)); have HS2 := Aside0.mk (show w.heap.size + 1 ≤ (wf.alloc (.cells #[.int .u8 0, .nilFunc] 62)).heap.size from Nat.succ_le_of_lt (blk_lt HX2.out)); obtain ⟨x0, x1, x2, x3, x4, x5⟩ := HXf.cells; have zx := blk_lt HXf); clear hb HXf OWNf HBf HPf)
            | (at_builtin; go_must (refine print_append_cells (w0 := wf.alloc (.cells #[.int .u8 0, .nilFunc] 62)) (w.heap.size + 1) rfl (.tmp 26) (.tmp 28) 31 38 (.agg #[.int .u8 0, .string ⟨#[]⟩]) 2 24 rfl Tryd.underlying31 info38 rfl (by decide) (by decide) u3 odd.length (odd.flatMap cel) (cel p) rfl (congrArg (fun n => Value.slice (some ⟨n, 0, none⟩) 1 1) (show wf.heap.size + 1 = (wf.alloc (.cells #[.int .u8 0, .nilFunc] 62)).heap.size by simp)) rfl (cel_one p) OWN2.out (Below.refl _ _) HS2.out f2 ?_); go_must (intro v1 wa own hb4 gr hat; have OWN3 := Aside0.mk (own_snoc own rfl); have HB3 := Aside0.mk (HB2.out.trans (hb4.mono (Nat.le_succ _))); have HX3 := Aside0.mk (show IpAt wa w.heap.size x from (hb4.block _ (Nat.lt_succ_self _)).trans HX2.out)); clear own hb4 gr hat))
          go_roundw
          case rel => exact ⟨i + 1, x, odd ++ [p], by omega, by go_num, by rw [List.length_append]; simp; omega, HE2, HX3, ⟨by rw [List.length_append]; exact OWN3.out⟩, HB3⟩
          case measure => simp [RowKit.intOf]; omega
    · have HE3 := Aside0.mk (show getK l = (x, odd, 0) by rw [HE.out, List.drop_eq_nil_of_le (by omega)]; rfl)
      have hge : ¬ (i : Int) < (l.length : Int) := by omega
      obtain ⟨x0, x1, x2, x3, x4, x5⟩ := HX.out.cells
      have zx := blk_lt HX.out
      have fz0 := blk_frozen HX.out 0
      have fz1 := blk_frozen HX.out 1
      have fz2 := blk_frozen HX.out 2
      have fz3 := blk_frozen HX.out 3
      have fz4 := blk_frozen HX.out 4
      have fz5 := blk_frozen HX.out 5
      clear hlt HE
      go_wp2_with fail
      have HZ : IpAt (World.setCell (World.setCell (World.setCell (World.setCell (World.setCell (World.setCell wr ⟨w.heap.size, 0, none⟩ (.bool x.h0)) ⟨w.heap.size, 1, none⟩ (.int .u32 x.a0)) ⟨w.heap.size, 2, none⟩ (.bool x.h1)) ⟨w.heap.size, 3, none⟩ (.int .u32 x.a1)) ⟨w.heap.size, 4, none⟩ (.bool x.h2)) ⟨w.heap.size, 5, none⟩ (.int .u32 x.a2)) w.heap.size x := (blk_set (blk_set (blk_set (blk_set (blk_set (blk_set HX.out 0 _) 1 _) 2 _) 3 _) 4 _) 5 _).trans rfl
      have HBz : Below w.heap.size w (World.setCell (World.setCell (World.setCell (World.setCell (World.setCell (World.setCell wr ⟨w.heap.size, 0, none⟩ (.bool x.h0)) ⟨w.heap.size, 1, none⟩ (.int .u32 x.a0)) ⟨w.heap.size, 2, none⟩ (.bool x.h1)) ⟨w.heap.size, 3, none⟩ (.int .u32 x.a1)) ⟨w.heap.size, 4, none⟩ (.bool x.h2)) ⟨w.heap.size, 5, none⟩ (.int .u32 x.a2)) := by repeat (first | (with_reducible exact HB.out) | (refine Below.setCell ?_ (by simp) _))
      have HOz : (World.setCell (World.setCell (World.setCell (World.setCell (World.setCell (World.setCell wr ⟨w.heap.size, 0, none⟩ (.bool x.h0)) ⟨w.heap.size, 1, none⟩ (.int .u32 x.a0)) ⟨w.heap.size, 2, none⟩ (.bool x.h1)) ⟨w.heap.size, 3, none⟩ (.int .u32 x.a1)) ⟨w.heap.size, 4, none⟩ (.bool x.h2)) ⟨w.heap.size, 5, none⟩ (.int .u32 x.a2)).ownsRow (w.heap.size + 1) 38 2 u3 odd.length (odd.flatMap cel) := (ownsRow_setCell_below (ownsRow_setCell_below (ownsRow_setCell_below (ownsRow_setCell_below (ownsRow_setCell_below (ownsRow_setCell_below OWN.out (by simp) _) (by simp) _) (by simp) _) (by simp) _) (by simp) _) (by simp) _)
      clear x0 x1 x2 x3 x4 x5 zx fz0 fz1 fz2 fz3 fz4 fz5
      generalize (World.setCell (World.setCell (World.setCell (World.setCell (World.setCell (World.setCell wr ⟨w.heap.size, 0, none⟩ (.bool x.h0)) ⟨w.heap.size, 1, none⟩ (.int .u32 x.a0)) ⟨w.heap.size, 2, none⟩ (.bool x.h1)) ⟨w.heap.size, 3, none⟩ (.int .u32 x.a1)) ⟨w.heap.size, 4, none⟩ (.bool x.h2)) ⟨w.heap.size, 5, none⟩ (.int .u32 x.a2)) = wz at HZ HBz HOz ⊢
      have HBz' := Aside0.mk HBz
      have HOz' := Aside0.mk HOz
      have HZ' := Aside0.mk HZ
      clear HZ HBz HOz
      refine bodyPost_ret (v := .tuple #[ipV x, u3, .int .i64 0]) (get_results _ wz w.heap.size x _ _ rfl rfl rfl HZ'.out) rfl ?_
      unfold GetPost
      rw [HE3.out]
      exact ⟨_, rfl, own_less HOz'.out (by omega), HBz'.out⟩
end Go.Proofs.YtemddnccomeibaaDoorHIp
