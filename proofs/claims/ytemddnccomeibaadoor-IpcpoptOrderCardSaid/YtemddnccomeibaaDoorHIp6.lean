/- ipcpopt: options out of values. -/
import Derived.Test.YtemddnccomeibaaDoorHIp5
import Derived.Test.YtemddnccomeibaaDoorHS
import Derived.Laws.EntriesVeiled
namespace Go.Proofs.YtemddnccomeibaaDoorHIp
open Go.RowKit Go.Proofs.YtemddnccomeibaaDoorW.PrintWords Go.Proofs.YtemddnccomeibaaDoorHW Go.Proofs.YtemddnccomeibaaDoorHG Go.Proofs.YtemddnccomeibaaDoor.PG10
set_option linter.unusedVariables false
set_option linter.unusedSimpArgs false
abbrev Op := S38
instance : Inhabited Op := ⟨z38⟩
def cel (x : Op) : List Value := [.int .u8 x.f0, .string x.f1]
theorem cel_len (x : Op) : (cel x).length = 2 := rfl
theorem info38 : (Tryd.prog.info? 38).map (fun i => (i.zero, i.size, i.bytes)) = some (some (.agg #[.int .u8 0, .string ⟨#[]⟩]), 2, 24) := by kernel_rfl
theorem C_of_own {w : World} {B : Nat} {v : Value} {ls : List Op} (h : w.ownsRow B 38 2 v ls.length (ls.flatMap cel)) :
    ∃ A cap, v = .slice A ls.length cap ∧ ls.length ≤ cap ∧ Kd.C k38 w A ls.length ls := by
  obtain ⟨h1, h2⟩ := h
  rcases h2 with ⟨rfl, hz⟩ | ⟨g, cap, cur, rfl, hg, hh, r1, r2, r3, r4⟩
  · have e : ls = [] := List.eq_nil_of_length_eq_zero hz
    subst e
    exact ⟨none, 0, rfl, Nat.le_refl _, ⟨rfl, by decide, fun h => by simp at h⟩⟩
  · refine ⟨_, cap, rfl, r1, ⟨rfl, by unfold maxLen at r2; omega, fun _ => ⟨_, rfl, fun j p hj => ⟨cel p, rfl, k38_mk w p, fun i u hu => ?_⟩⟩⟩⟩
    have hjl : j < ls.length := (List.getElem?_eq_some_iff.1 hj).1
    have hil : i < 2 := by have := (List.getElem?_eq_some_iff.1 hu).1; rw [cel_len] at this; exact this
    have hlt : j * 2 + i < ls.length * 2 := by omega
    have z := Go.Proofs.YtemddnccomeibaaDoorHS.flat_get cel 2 cel_len (by decide) ls (j * 2 + i) hlt
    have d1 : (j * 2 + i) / 2 = j := by omega
    have d2 : (j * 2 + i) % 2 = i := by omega
    have d3 : ls[j]! = p := by rw [getElem!_pos ls j hjl]; obtain ⟨_, e⟩ := List.getElem?_eq_some_iff.1 hj; exact e
    rw [d1, d2, d3, hu, ← r4, List.getElem?_take_of_lt hlt, Array.getElem?_toList] at z
    have e : ((⟨g, 0, none⟩ : Addr).add (j * 2 + i)) = ⟨g, j * 2 + i, none⟩ := by
      unfold Addr.add
      by_cases h0 : j * 2 + i = 0
      · rw [if_pos h0, h0]
      · rw [if_neg h0]; simp
    show w.cell? ((⟨g, 0, none⟩ : Addr).add (j * 2 + i)) = some u
    rw [e]
    simp only [World.cell?, hh]
    simpa using z
structure Ip where
  h0 : Bool
  a0 : Int
  h1 : Bool
  a1 : Int
  h2 : Bool
  a2 : Int
structure IpOk (x : Ip) : Prop where
  l0 : 0 ≤ x.a0
  u0 : x.a0 < 4294967296
  l1 : 0 ≤ x.a1
  u1 : x.a1 < 4294967296
  l2 : 0 ≤ x.a2
  u2 : x.a2 < 4294967296
def zIp : Ip := ⟨false, 0, false, 0, false, 0⟩
def putB (v : Int) : ByteArray := strOfNums [v / 16777216 % 256, v / 65536 % 256, v / 256 % 256, v % 256]
def may (x : Ip) : Prop := (x.h0 = true ∨ x.a0 = 0) ∧ (x.h1 = true ∨ x.a1 = 0) ∧ (x.h2 = true ∨ x.a2 = 0)
instance (x : Ip) : Decidable (may x) := by unfold may; infer_instance
def putL (x : Ip) : List Op := (if x.h0 = true then [⟨3, putB x.a0⟩] else []) ++ (if x.h1 = true then [⟨129, putB x.a1⟩] else []) ++ (if x.h2 = true then [⟨131, putB x.a2⟩] else [])
def putK (x : Ip) : List Op × Int := if may x then (putL x, 0) else ([], 2)
def OptsPost (ls : List Op) (k : Int) (w : World) (e : Ending) (w' : World) : Prop := ∃ v, e = .returned (.tuple #[v, .int .i64 k]) ∧ w'.ownsRow w.heap.size 38 2 v ls.length (ls.flatMap cel) ∧ Below w.heap.size w w'
def kindsV : Value := .agg #[.int .u8 3, .func (.func 91) #[] #[], .int .u8 129, .func (.func 92) #[] #[], .int .u8 131, .func (.func 93) #[] #[]]
/-- A box of six cells. -/
def IpAt (w : World) (B : Nat) (x : Ip) : Prop := w.heap[B]? = some (.cells #[.bool x.h0, .int .u32 x.a0, .bool x.h1, .int .u32 x.a1, .bool x.h2, .int .u32 x.a2] 30 (0, 0))
theorem IpAt.cells {w : World} {B : Nat} {x : Ip} (h : IpAt w B x) : w.cell? ⟨B, 0, none⟩ = some (.bool x.h0) ∧ w.cell? ⟨B, 1, none⟩ = some (.int .u32 x.a0) ∧ w.cell? ⟨B, 2, none⟩ = some (.bool x.h1) ∧ w.cell? ⟨B, 3, none⟩ = some (.int .u32 x.a1) ∧ w.cell? ⟨B, 4, none⟩ = some (.bool x.h2) ∧ w.cell? ⟨B, 5, none⟩ = some (.int .u32 x.a2) := ⟨blk_cell h 0, blk_cell h 1, blk_cell h 2, blk_cell h 3, blk_cell h 4, blk_cell h 5⟩
theorem IpAt.below {w w' : World} {B : Nat} {x : Ip} (h : IpAt w B x) (hb : Below w.heap.size w w') : IpAt w' B x := hw_below h hb
theorem IpAt.grown {w w' : World} {B : Nat} {x : Ip} {row : Option Nat} (h : IpAt w B x) (hg : w.grownBy w' row) (hne : some B ≠ row) : IpAt w' B x := blk_grown h hg hne

theorem kind0 (B : Nat) (w : World) (hb : B < w.heap.size) : Calls Tryd.prog 91 #[.pointer (some ⟨B, 0, none⟩)] w fun e w' => e = .returned (.tuple #[.pointer (some ⟨B, 0, none⟩), .pointer (some ⟨B, 1, none⟩)]) ∧ Below w.heap.size w w' := by
  have huE := Tryd.underlying30
  go_enter Tryd.func91, Tryd.ntmps91
  go_wp2_with fail
  repeat (go_quiet (fail); try go_wp2)
  first | go_ret | go_ret2 | go_ret3
  exact ⟨rfl, by repeat (first | exact Below.refl _ _ | apply pw_below_drewN | apply below_drew1)⟩
theorem kind1 (B : Nat) (w : World) (hb : B < w.heap.size) : Calls Tryd.prog 92 #[.pointer (some ⟨B, 0, none⟩)] w fun e w' => e = .returned (.tuple #[.pointer (some ⟨B, 2, none⟩), .pointer (some ⟨B, 3, none⟩)]) ∧ Below w.heap.size w w' := by
  have huE := Tryd.underlying30
  go_enter Tryd.func92, Tryd.ntmps92
  go_wp2_with fail
  repeat (go_quiet (fail); try go_wp2)
  first | go_ret | go_ret2 | go_ret3
  exact ⟨rfl, by repeat (first | exact Below.refl _ _ | apply pw_below_drewN | apply below_drew1)⟩
theorem kind2 (B : Nat) (w : World) (hb : B < w.heap.size) : Calls Tryd.prog 93 #[.pointer (some ⟨B, 0, none⟩)] w fun e w' => e = .returned (.tuple #[.pointer (some ⟨B, 4, none⟩), .pointer (some ⟨B, 5, none⟩)]) ∧ Below w.heap.size w w' := by
  have huE := Tryd.underlying30
  go_enter Tryd.func93, Tryd.ntmps93
  go_wp2_with fail
  repeat (go_quiet (fail); try go_wp2)
  first | go_ret | go_ret2 | go_ret3
  exact ⟨rfl, by repeat (first | exact Below.refl _ _ | apply pw_below_drewN | apply below_drew1)⟩
/-- A slice's elements, where they lie. -/
def Src (w : World) (u : Value) (m : Nat) (news : List Value) : Prop := ∃ ad c, u = .slice (some ad) m c ∧ news.length = m * 2 ∧ ∀ j y, news[j]? = some y → w.cell? (ad.add j) = some y
section
variable {P : Program} (w : World) {ops : Array Oper} {o : Oper} {a : Act} {Q : Exit → Act → World → Prop}
theorem step_appendC {K : Act → World → Prop} {E : Prop} (hgd : o.guard = none) (s x : Operand) (t : TypeId) (ho : o.op = .call { callee := .builtin .append, args := #[s, x], argTypes := #[t, t] })
    (base : Nat) (e : TypeId) (z : Value) (bytes : Nat) (ht : P.underlying t = some (.slice e)) (hinfo : (P.info? e).map (fun i => (i.zero, i.size, i.bytes)) = some (some z, 2, bytes)) (hzs : z.cells.size = 2)
    (v : Value) (n : Nat) (xs : List Value) (hs : a.eval s = v) (hown : w.ownsRow base e 2 v n xs) (u : Value) (m : Nat) (news : List Value) (hx : a.eval x = u) (hsrc : Src w u m news) (h1 : ∀ u ∈ news, u.oneCell' = true)
    (h63 : n + m ≤ maxLen) (hbytes : (n + m) * bytes ≤ 140737488355328) (hbase : base ≤ w.heap.size)
    (h : ∀ v' w', w'.ownsRow base e 2 v' (n + m) (xs ++ news) → w.grownBy w' v.ownBlock → K (a.put o.dst v') w') : if Region.wanted o (yielded ops a.tmps) = true then Oper.wp P o a w K Q else E := by
  have hw : Region.wanted o (yielded ops a.tmps) = true := by simp [Region.wanted, hgd]
  rw [if_pos hw]
  obtain ⟨i0, hi, hzz⟩ := Option.map_eq_some_iff.1 hinfo
  simp only [Prod.mk.injEq] at hzz
  obtain ⟨hz0, hz1, hz2⟩ := hzz
  obtain ⟨ad, c, rfl, hl, hn⟩ := hsrc
  obtain ⟨v', w', hr, q1, q2, _, _⟩ := run_append_own_at (P := P) w base t o.type e i0 z 2 bytes ht hi hz0 hz1 hz2 hzs (by omega) v n xs hown ad m c news hl hn h1 h63 hbytes hbase
  unfold Oper.wp execOp
  simp only [ho, resolve, invoke, builtin, Sem.run_bind, Sem.run_pure, Result.andThen_ok, List.map_toArray, List.map_cons, List.map_nil, hs, hx, hr]
  exact h v' w' q1 q2
end
theorem src_one (w : World) (x : Op) : Src (w.alloc (.cells #[.int .u8 x.f0, .string x.f1] 38)) (.slice (some ⟨w.heap.size, 0, none⟩) 1 1) 1 (cel x) := by
  refine ⟨_, _, rfl, rfl, fun j y hy => ?_⟩
  have z := World.news_of_block (cs := #[.int .u8 x.f0, .string x.f1]) (t := 38) (fr := (0, 0)) (heap_alloc_new w (.cells #[.int .u8 x.f0, .string x.f1] 38))
  exact z j y hy
theorem own_snoc {w : World} {B n : Nat} {v : Value} {l l2 : List Op} {x : Op} (h : w.ownsRow B 38 2 v (n + 1) (l.flatMap cel ++ cel x)) (e : l ++ [x] = l2) : w.ownsRow B 38 2 v (n + 1) (l2.flatMap cel) := by subst e; rw [List.flatMap_append]; simpa using h
theorem cel_one (x : Op) : ∀ u ∈ cel x, u.oneCell' = true := by intro u hu; simp [cel] at hu; rcases hu with rfl | rfl <;> rfl
set_option maxRecDepth 100000 in
set_option maxHeartbeats 4000000 in
theorem Put (x : Ip) (hx : IpOk x) (w : World) (hv : VarsAt w) :
    Calls Tryd.prog 12 #[.agg #[.bool x.h0, .int .u32 x.a0, .bool x.h1, .int .u32 x.a1, .bool x.h2, .int .u32 x.a2]] w (OptsPost (putK x).1 (putK x).2 w) := by
  obtain ⟨w0, hw0⟩ : ∃ w0, w.alloc (.cells #[.bool x.h0, .int .u32 x.a0, .bool x.h1, .int .u32 x.a1, .bool x.h2, .int .u32 x.a2] 30) = w0 := ⟨_, rfl⟩
  have HX := Aside0.mk (show IpAt w0 w.heap.size x from by rw [← hw0]; exact blk_new w _)
  have HB0 := Aside0.mk (show Below w.heap.size w w0 from by rw [← hw0]; exact below_alloc (Below.refl w.heap.size w) _)
  have HV := Aside0.mk (hv.below HB0.out)
  have HS0 := Aside0.mk (show w0.heap.size = w.heap.size + 1 from by rw [← hw0]; simp)
  have HB := Aside0.mk (Below.refl w0.heap.size w0)
  have OWN := Aside0.mk (World.ownsRow_nil w0 w0.heap.size 38 2)
  obtain ⟨x0, x1, x2, x3, x4, x5⟩ := HX.out.cells
  obtain ⟨tab, mx, syn, rng, k0, k1, k2, k3, k4, k5⟩ := HV.out
  clear tab mx syn rng hv
  have Z := HV.out
  rw [← hw0] at Z
  obtain ⟨tab, mx, syn, rng, q0, q1, q2, q3, q4, q5⟩ := Z
  clear tab mx syn rng
  have huK := Tryd.underlying62
  have ix0 : ∀ W, (Instr.index 63 kindsV (.int .i64 0)).run Tryd.prog W = .ok (.agg #[.int .u8 3, .func (.func 91) #[] #[]]) W := fun W => by kernel_rfl
  have ix1 : ∀ W, (Instr.index 63 kindsV (.int .i64 1)).run Tryd.prog W = .ok (.agg #[.int .u8 129, .func (.func 92) #[] #[]]) W := fun W => by kernel_rfl
  have ix2 : ∀ W, (Instr.index 63 kindsV (.int .i64 2)).run Tryd.prog W = .ok (.agg #[.int .u8 131, .func (.func 93) #[] #[]]) W := fun W => by kernel_rfl
  unfold kindsV at ix0 ix1 ix2
  go_enter Tryd.func12, Tryd.ntmps12
  go_wp2_with fail
  try rw [hw0]
  clear hw0 q0 q1 q2 q3 q4 q5

  obtain ⟨n, l, hn, NL, NR, OWN⟩ : ∃ (n : Nat) (l : List Op), n ≤ 0 ∧ Aside0 (l.length = n) ∧ Aside0 (l = []) ∧ Aside0 (w0.ownsRow w0.heap.size 38 2 (.slice none 0 0) n (l.flatMap cel)) := ⟨0, [], by omega, ⟨rfl⟩, ⟨rfl⟩, OWN⟩
  refine wp_loop_rounds 4 ?_
  rw [rounds_succ]
  go_upto_block 1 with fail
  go_cut [2] (fun v2 wx => ∃ (n : Nat) (l : List Op), n ≤ 1 ∧ Aside0 (l.length = n) ∧ Aside0 (l = ((if x.h0 = true then [⟨3, putB x.a0⟩] else []))) ∧ Aside0 (x.h0 = true ∨ x.a0 = 0) ∧ Aside0 (Below w0.heap.size w0 wx) ∧ Aside0 (wx.ownsRow w0.heap.size 38 2 v2 n (l.flatMap cel)))
  case first =>
    go_upto_block 2 with (go_at_call 91; go_must (refine (kind0 w.heap.size _ (by have := HB.out.size; have := HS0.out; simp; omega)).mono ?_); go_must (rintro e wk0 ⟨rfl, hb⟩; have KT := pw_cell_below hb (show (World.alloc w0 (.cells #[.int .u8 3, .func (.func 91) #[] #[]] 62)).cell? ⟨w0.heap.size, 0, none⟩ = some (.int .u8 3) from (blk_cell (blk_new w0 (.cells #[.int .u8 3, .func (.func 91) #[] #[]] 62)) 0).trans rfl); replace HB := Aside0.mk (below_step (below_alloc HB.out (.cells #[.int .u8 3, .func (.func 91) #[] #[]] 62)) hb); replace OWN := Aside0.mk (pw_own_below (OWN.out.alloc (.cells #[.int .u8 3, .func (.func 91) #[] #[]] 62)) hb); (try clear x0 x1 x2 x3 x4 x5); obtain ⟨x0, x1, x2, x3, x4, x5⟩ := (HX.out.below HB.out).cells); clear hb)
    by_cases e0 : x.h0 = true
    · have E := Aside0.mk e0
      rw [e0] at x0
      clear e0
      as_aux_lemma =>
        have f1 : n + 1 ≤ maxLen := by unfold maxLen; omega
        have f2 : (n + 1) * 24 ≤ 140737488355328 := by omega
        go_upto_region 6 with fail
        go_region_law (first | (go_simp; go_at_call 24; (refine (octet_Put32.calls x.a0 (putB x.a0) _ rfl).mono ?_); (rintro e wp0 ⟨rfl, hb⟩; have KT0 := pw_cell_below hb (show (World.drew wk0).cell? _ = _ from KT); have HBp := Aside0.mk (below_step (below_drew (W := wk0) HB.out) hb); have OWNp := Aside0.mk (pw_own_below (show (World.drew wk0).ownsRow w0.heap.size 38 2 _ _ _ from OWN.out) hb)); clear hb) | (refine step_appendC _ rfl (.tmp 22) (.tmp 30) 31 rfl w0.heap.size 38 (.agg #[.int .u8 0, .string ⟨#[]⟩]) 24 Tryd.underlying31 info38 rfl (.slice none 0 0) n (l.flatMap cel) rfl (OWNp.out.alloc _) _ 1 (cel ⟨3, putB x.a0⟩) rfl (src_one _ ⟨3, putB x.a0⟩) (cel_one _) f1 f2 (below_size (below_alloc HBp.out _)) ?_; intro v0 wa0 own gr))
        all_goals
          have OWNa := Aside0.mk (own_snoc own rfl)
          have HBa := Aside0.mk (Below.grown (below_alloc HBp.out _) gr (below_size (below_alloc HBp.out _)) (fun k hk => ((OWNp.out.alloc (.cells #[] 0)).lt k hk).1))
          clear own gr
          go_wp2_with fail
          go_meet
          exact ⟨n + 1, _, by omega, ⟨by rw [List.length_append, NL.out]; rfl⟩, ⟨by rw [NR.out, if_pos E.out]; simp⟩, ⟨Or.inl E.out⟩, HBa, OWNa⟩
    · replace e0 : x.h0 = false := by simpa using e0
      have E := Aside0.mk e0
      rw [e0] at x0
      clear e0
      by_cases z0 : x.a0 = 0
      · have zb : (x.a0 == 0) = true := beq_iff_eq.mpr z0
        have M := Aside0.mk z0
        clear z0
        as_aux_lemma =>
          go_wp2_with fail
          go_meet
          exact ⟨n, l, by omega, NL, ⟨by rw [NR.out, E.out]; simp⟩, ⟨Or.inr M.out⟩, HB, OWN⟩
      · have zb : (x.a0 == 0) = false := beq_eq_false_iff_ne.mpr z0
        have HK := Aside0.mk (show putK x = (([] : List Op), 2) by unfold putK may; exact if_neg (fun h => (h.1).elim (fun h => absurd (h.symm.trans E.out) (by simp)) z0))
        clear z0
        as_aux_lemma =>
          go_wp2_with fail
          first | go_ret | go_ret2 | go_ret3
          rw [HK.out]
          exact ⟨_, rfl, World.ownsRow_nil _ _ _ _, HB0.out.trans (HB.out.mono (by have := HS0.out; omega))⟩
  case rest =>
    obtain ⟨n', l', hn', NL', NR', M0, HB', OWN'⟩ := hcut
    clear HB OWN NL NR hn
    have HB := HB'
    have OWN := OWN'
    have NL := NL'
    have NR := NR'
    clear HB' OWN' NL' NR'
    rename World => wn0
    rename Nat => n
    rename List Op => l
    have hn := hn'
    clear hn'
    go_wp2_with fail
    rw [rounds_succ]
    go_upto_block 1 with fail
    go_cut [2] (fun v2 wx => ∃ (n : Nat) (l : List Op), n ≤ 2 ∧ Aside0 (l.length = n) ∧ Aside0 (l = ((if x.h0 = true then [⟨3, putB x.a0⟩] else []) ++ (if x.h1 = true then [⟨129, putB x.a1⟩] else []))) ∧ Aside0 (x.h1 = true ∨ x.a1 = 0) ∧ Aside0 (Below w0.heap.size w0 wx) ∧ Aside0 (wx.ownsRow w0.heap.size 38 2 v2 n (l.flatMap cel)))
    case first =>
      go_upto_block 2 with (go_at_call 92; go_must (refine (kind1 w.heap.size _ (by have := HB.out.size; have := HS0.out; simp; omega)).mono ?_); go_must (rintro e wk1 ⟨rfl, hb⟩; have KT := pw_cell_below hb (show (World.alloc wn0 (.cells #[.int .u8 129, .func (.func 92) #[] #[]] 62)).cell? ⟨wn0.heap.size, 0, none⟩ = some (.int .u8 129) from (blk_cell (blk_new wn0 (.cells #[.int .u8 129, .func (.func 92) #[] #[]] 62)) 0).trans rfl); replace HB := Aside0.mk (below_step (below_alloc HB.out (.cells #[.int .u8 129, .func (.func 92) #[] #[]] 62)) hb); replace OWN := Aside0.mk (pw_own_below (OWN.out.alloc (.cells #[.int .u8 129, .func (.func 92) #[] #[]] 62)) hb); (try clear x0 x1 x2 x3 x4 x5); obtain ⟨x0, x1, x2, x3, x4, x5⟩ := (HX.out.below HB.out).cells); clear hb)
      by_cases e1 : x.h1 = true
      · have E := Aside0.mk e1
        rw [e1] at x2
        clear e1
        as_aux_lemma =>
          have f1 : n + 1 ≤ maxLen := by unfold maxLen; omega
          have f2 : (n + 1) * 24 ≤ 140737488355328 := by omega
          go_upto_region 6 with fail
          go_region_law (first | (go_simp; go_at_call 24; (refine (octet_Put32.calls x.a1 (putB x.a1) _ rfl).mono ?_); (rintro e wp1 ⟨rfl, hb⟩; have KT1 := pw_cell_below hb (show (World.drew wk1).cell? _ = _ from KT); have HBp := Aside0.mk (below_step (below_drew (W := wk1) HB.out) hb); have OWNp := Aside0.mk (pw_own_below (show (World.drew wk1).ownsRow w0.heap.size 38 2 _ _ _ from OWN.out) hb)); clear hb) | (refine step_appendC _ rfl (.tmp 22) (.tmp 30) 31 rfl w0.heap.size 38 (.agg #[.int .u8 0, .string ⟨#[]⟩]) 24 Tryd.underlying31 info38 rfl (u2) n (l.flatMap cel) rfl (OWNp.out.alloc _) _ 1 (cel ⟨129, putB x.a1⟩) rfl (src_one _ ⟨129, putB x.a1⟩) (cel_one _) f1 f2 (below_size (below_alloc HBp.out _)) ?_; intro v1 wa1 own gr))
          all_goals
            have OWNa := Aside0.mk (own_snoc own rfl)
            have HBa := Aside0.mk (Below.grown (below_alloc HBp.out _) gr (below_size (below_alloc HBp.out _)) (fun k hk => ((OWNp.out.alloc (.cells #[] 0)).lt k hk).1))
            clear own gr
            go_wp2_with fail
            go_meet
            exact ⟨n + 1, _, by omega, ⟨by rw [List.length_append, NL.out]; rfl⟩, ⟨by rw [NR.out, if_pos E.out]⟩, ⟨Or.inl E.out⟩, HBa, OWNa⟩
      · replace e1 : x.h1 = false := by simpa using e1
        have E := Aside0.mk e1
        rw [e1] at x2
        clear e1
        by_cases z1 : x.a1 = 0
        · have zb : (x.a1 == 0) = true := beq_iff_eq.mpr z1
          have M := Aside0.mk z1
          clear z1
          as_aux_lemma =>
            go_wp2_with fail
            go_meet
            exact ⟨n, l, by omega, NL, ⟨by rw [NR.out, E.out]; simp⟩, ⟨Or.inr M.out⟩, HB, OWN⟩
        · have zb : (x.a1 == 0) = false := beq_eq_false_iff_ne.mpr z1
          have HK := Aside0.mk (show putK x = (([] : List Op), 2) by unfold putK may; exact if_neg (fun h => (h.2.1).elim (fun h => absurd (h.symm.trans E.out) (by simp)) z1))
          clear z1
          as_aux_lemma =>
            go_wp2_with fail
            first | go_ret | go_ret2 | go_ret3
            rw [HK.out]
            exact ⟨_, rfl, World.ownsRow_nil _ _ _ _, HB0.out.trans (HB.out.mono (by have := HS0.out; omega))⟩
    case rest =>
      obtain ⟨n', l', hn', NL', NR', M1, HB', OWN'⟩ := hcut
      clear HB OWN NL NR hn
      have HB := HB'
      have OWN := OWN'
      have NL := NL'
      have NR := NR'
      clear HB' OWN' NL' NR'
      rename World => wn1
      rename Nat => n
      rename List Op => l
      have hn := hn'
      clear hn'
      go_wp2_with fail
      rw [rounds_succ]
      go_upto_block 1 with fail
      go_cut [2] (fun v2 wx => ∃ (n : Nat) (l : List Op), n ≤ 3 ∧ Aside0 (l.length = n) ∧ Aside0 (l = ((if x.h0 = true then [⟨3, putB x.a0⟩] else []) ++ (if x.h1 = true then [⟨129, putB x.a1⟩] else []) ++ (if x.h2 = true then [⟨131, putB x.a2⟩] else []))) ∧ Aside0 (x.h2 = true ∨ x.a2 = 0) ∧ Aside0 (Below w0.heap.size w0 wx) ∧ Aside0 (wx.ownsRow w0.heap.size 38 2 v2 n (l.flatMap cel)))
      case first =>
        go_upto_block 2 with (go_at_call 93; go_must (refine (kind2 w.heap.size _ (by have := HB.out.size; have := HS0.out; simp; omega)).mono ?_); go_must (rintro e wk2 ⟨rfl, hb⟩; have KT := pw_cell_below hb (show (World.alloc wn1 (.cells #[.int .u8 131, .func (.func 93) #[] #[]] 62)).cell? ⟨wn1.heap.size, 0, none⟩ = some (.int .u8 131) from (blk_cell (blk_new wn1 (.cells #[.int .u8 131, .func (.func 93) #[] #[]] 62)) 0).trans rfl); replace HB := Aside0.mk (below_step (below_alloc HB.out (.cells #[.int .u8 131, .func (.func 93) #[] #[]] 62)) hb); replace OWN := Aside0.mk (pw_own_below (OWN.out.alloc (.cells #[.int .u8 131, .func (.func 93) #[] #[]] 62)) hb); (try clear x0 x1 x2 x3 x4 x5); obtain ⟨x0, x1, x2, x3, x4, x5⟩ := (HX.out.below HB.out).cells); clear hb)
        by_cases e2 : x.h2 = true
        · have E := Aside0.mk e2
          rw [e2] at x4
          clear e2
          as_aux_lemma =>
            have f1 : n + 1 ≤ maxLen := by unfold maxLen; omega
            have f2 : (n + 1) * 24 ≤ 140737488355328 := by omega
            go_upto_region 6 with fail
            go_region_law (first | (go_simp; go_at_call 24; (refine (octet_Put32.calls x.a2 (putB x.a2) _ rfl).mono ?_); (rintro e wp2 ⟨rfl, hb⟩; have KT2 := pw_cell_below hb (show (World.drew wk2).cell? _ = _ from KT); have HBp := Aside0.mk (below_step (below_drew (W := wk2) HB.out) hb); have OWNp := Aside0.mk (pw_own_below (show (World.drew wk2).ownsRow w0.heap.size 38 2 _ _ _ from OWN.out) hb)); clear hb) | (refine step_appendC _ rfl (.tmp 22) (.tmp 30) 31 rfl w0.heap.size 38 (.agg #[.int .u8 0, .string ⟨#[]⟩]) 24 Tryd.underlying31 info38 rfl (u2) n (l.flatMap cel) rfl (OWNp.out.alloc _) _ 1 (cel ⟨131, putB x.a2⟩) rfl (src_one _ ⟨131, putB x.a2⟩) (cel_one _) f1 f2 (below_size (below_alloc HBp.out _)) ?_; intro v2 wa2 own gr))
            all_goals
              have OWNa := Aside0.mk (own_snoc own rfl)
              have HBa := Aside0.mk (Below.grown (below_alloc HBp.out _) gr (below_size (below_alloc HBp.out _)) (fun k hk => ((OWNp.out.alloc (.cells #[] 0)).lt k hk).1))
              clear own gr
              go_wp2_with fail
              go_meet
              exact ⟨n + 1, _, by omega, ⟨by rw [List.length_append, NL.out]; rfl⟩, ⟨by rw [NR.out, if_pos E.out]⟩, ⟨Or.inl E.out⟩, HBa, OWNa⟩
        · replace e2 : x.h2 = false := by simpa using e2
          have E := Aside0.mk e2
          rw [e2] at x4
          clear e2
          by_cases z2 : x.a2 = 0
          · have zb : (x.a2 == 0) = true := beq_iff_eq.mpr z2
            have M := Aside0.mk z2
            clear z2
            as_aux_lemma =>
              go_wp2_with fail
              go_meet
              exact ⟨n, l, by omega, NL, ⟨by rw [NR.out, E.out]; simp⟩, ⟨Or.inr M.out⟩, HB, OWN⟩
          · have zb : (x.a2 == 0) = false := beq_eq_false_iff_ne.mpr z2
            have HK := Aside0.mk (show putK x = (([] : List Op), 2) by unfold putK may; exact if_neg (fun h => (h.2.2).elim (fun h => absurd (h.symm.trans E.out) (by simp)) z2))
            clear z2
            as_aux_lemma =>
              go_wp2_with fail
              first | go_ret | go_ret2 | go_ret3
              rw [HK.out]
              exact ⟨_, rfl, World.ownsRow_nil _ _ _ _, HB0.out.trans (HB.out.mono (by have := HS0.out; omega))⟩
      case rest =>
        obtain ⟨n', l', hn', NL', NR', M2, HB', OWN'⟩ := hcut
        clear HB OWN NL NR hn
        have HB := HB'
        have OWN := OWN'
        have NL := NL'
        have NR := NR'
        clear HB' OWN' NL' NR'
        rename World => wn2
        rename Nat => n
        rename List Op => l
        have hn := hn'
        clear hn'
        go_wp2_with fail
        rw [rounds_succ]
        go_wp2_with fail
        first | go_ret | go_ret2 | go_ret3
        have HK := Aside0.mk (show putK x = (putL x, 0) by unfold putK; rw [if_pos ⟨M0.out, M1.out, M2.out⟩])
        rw [HK.out]
        exact ⟨_, rfl, own_less (show World.ownsRow _ w0.heap.size 38 2 _ (putL x).length ((putL x).flatMap cel) from by have q := OWN.out; rw [← NL.out, NR.out] at q; exact q) (by have := HS0.out; omega), HB0.out.trans (HB.out.mono (by have := HS0.out; omega))⟩
end Go.Proofs.YtemddnccomeibaaDoorHIp
