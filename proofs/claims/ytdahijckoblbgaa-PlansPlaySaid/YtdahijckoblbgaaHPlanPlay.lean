/- PlansPlay: what it plays on; the ways that end ahead of its loop. -/
import Derived.Test.YtdahijckoblbgaaHPlanRef3
import Derived.Test.YtdahijckoblbgaaHPlanNil
import Derived.Test.YtdahijckoblbgaaPG27x7
namespace Go.Proofs.YtdahijckoblbgaaHVP
open Go.RowKit Go.Maps Go.Sort Go.Shelf Go.Lib Go.Proofs.YtdahijckoblbgaaW.PrintWords Go.Proofs.YtdahijckoblbgaaHW Go.Proofs.YtdahijckoblbgaaHG Go.Proofs.Ytdahijckoblbgaa.PG27 Go.Proofs.YtdahijckoblbgaaHT
set_option linter.unusedVariables false
set_option linter.unusedSimpArgs false
abbrev St := S47
theorem of_go (l : List St) (hl : l.length ≤ 100) : ∀ (d k i : Nat) (acc : List El), i ≤ l.length → l.length - i ≤ d → d < k → acc.length = i → halyardlaw27_of.l0 k l acc (i : Int) = some (acc ++ (l.drop i).map (·.f1))
  | d, 0, i, acc, _, _, h, _ => by omega
  | d, k + 1, i, acc, h0, h1, h2, h3 => by
    unfold halyardlaw27_of.l0
    by_cases c : i < l.length
    · have hp : l[i]? = some l[i] := List.getElem?_eq_getElem c
      have hr : rd_T47 l (i : Int) = l[i] := by
        unfold rd_T47
        rw [Int.toNat_natCast, List.getD_eq_getElem?_getD, hp]; rfl
      rw [if_pos (by omega), if_pos (by omega), if_pos (by omega), if_pos (by omega), hr, show wrap64 ((i : Int) + 1) = ((i + 1 : Nat) : Int) by unfold wrap64; omega]
      cases d with
      | zero => omega
      | succ d =>
        rw [of_go l hl d k (i + 1) _ (by omega) (by omega) (by omega) (by simp; omega), List.drop_eq_getElem_cons c, List.map_cons, List.append_assoc]
        rfl
    · rw [if_neg (by omega), List.drop_eq_nil_of_le (by omega)]
      simp
theorem of_val (l : List St) (hl : l.length ≤ 100) : halyardlaw27_of.f 300 l = some (l.map (·.f1)) := by
  unfold halyardlaw27_of.f
  have := of_go l hl 100 300 0 [] (by omega) (by omega) (by omega) rfl
  simpa using this
theorem MapIs.blk {P : Program} {k : TypeId} {zv : Value} {w : World} {b : Nat} {M : Lit → Option Value} {c : Nat} (h : MapIs P k zv w b M c) : ∃ es clock, w.heap[b]? = some (.map es clock) := by
  obtain ⟨D, ⟨es, clock, h1, h2⟩, h3⟩ := h
  exact ⟨es, clock, h1⟩
/-- A block of the book's map turns: the document's row stands. -/
theorem RefB.kbm {r b g : Nat} {w w' : World} {ls ms : List El} (h : RefB w r ls) (hp : BookAt w g b ms) (hk : KB b w w') : RefB w' r ls := by
  obtain ⟨v, h1, h2, h3⟩ := h
  obtain ⟨es, clk, hm⟩ := MapIs.blk hp.2.1
  have hb : ∀ j o, w.heap[j]? = some o → (∀ es clk, o ≠ Obj.map es clk) → w'.heap[j]? = some o := fun j o hj ho => KB.block hk hj (fun e => by subst e; rw [hm] at hj; exact ho _ _ (Option.some.inj hj).symm)
  refine ⟨v, hb _ _ h1 (by intros; simp), ?_, h3⟩
  obtain ⟨q1, q2⟩ := h2
  refine ⟨q1, ?_⟩
  rcases q2 with q2 | ⟨gg, cap, cur, e1, e2, e3, e4⟩
  · exact Or.inl q2
  · exact Or.inr ⟨gg, cap, cur, e1, e2, hb _ _ e3 (by intros; simp), e4⟩
/-- The document's own block turns: the book stands. -/
theorem BookAt.kbr {r b g : Nat} {w w' : World} {ls ms : List El} (hp : BookAt w g b ms) (h : RefB w r ls) (hk : KB r w w') : BookAt w' g b ms := by
  obtain ⟨v, h1, h2, h3⟩ := h
  obtain ⟨es, clk, hm⟩ := MapIs.blk hp.2.1
  refine ⟨KB.block hk hp.1 (fun e => ?_), hp.2.1.heap ((KB.block hk hm (fun e => ?_)).trans hm.symm), hp.2.2⟩
  · subst e
    have := hp.1
    rw [h1] at this
    exact absurd (Option.some.inj this) (by simp)
  · subst e
    rw [hm] at h1
    exact absurd (Option.some.inj h1) (by simp)
theorem BookAt.kbo {b b' g g' : Nat} {w w' : World} {ls ms : List El} (hp : BookAt w g b ls) (hq : BookAt w g' b' ms) (hne : b ≠ b') (hk : KB b' w w') : BookAt w' g b ls := by
  obtain ⟨es, clk, hm⟩ := MapIs.blk hp.2.1
  obtain ⟨es', clk', hm'⟩ := MapIs.blk hq.2.1
  refine ⟨KB.block hk hp.1 (fun e => ?_), hp.2.1.heap ((KB.block hk hm hne).trans hm.symm), hp.2.2⟩
  subst e
  have := hp.1
  rw [hm'] at this
  exact absurd (Option.some.inj this) (by simp)
/-- Both sides at a round's head. -/
def Both (W w : World) (r g b : Nat) (ls : List El) : Prop := BookAt w g b ls ∧ Valid ls ∧ RefB w r ls ∧ Below W.heap.size W w ∧ W.heap.size ≤ b ∧ W.heap.size ≤ r
/-- One side is ahead. -/
def Ahead (W w : World) (r g b : Nat) (ls ms : List El) : Prop := BookAt w g b ms ∧ Valid ls ∧ Valid ms ∧ RefB w r ls ∧ Below W.heap.size W w ∧ W.heap.size ≤ b ∧ W.heap.size ≤ r
section
variable {W w w' : World} {r g b : Nat} {ls ms : List El}
theorem Both.below (h : Both W w r g b ls) (hb : Below w.heap.size w w') : Both W w' r g b ls := ⟨h.1.kb hb, h.2.1, h.2.2.1.below hb, below_step h.2.2.2.1 hb, h.2.2.2.2⟩
theorem Both.new (hp : BookAt w g b ls) (hv : Valid ls) (hr : RefB w r ls) (hB : Below W.heap.size W w) (h1 : W.heap.size ≤ b) (h2 : W.heap.size ≤ r) : Both W w r g b ls := ⟨hp, hv, hr, hB, h1, h2⟩
theorem Both.kbo {go bo : Nat} {lo : List El} (h : Both W w r g b ls) (ho : BookAt w go bo lo) (hne : b ≠ bo) (hk : KB bo w w') (hW : W.heap.size ≤ bo) : Both W w' r g b ls :=
  ⟨h.1.kbo ho hne hk, h.2.1, h.2.2.1.kbm ho hk, KB.to_below h.2.2.2.1 hk hW h.2.2.2.1.size, h.2.2.2.2⟩
theorem Both.ahead (h : Both W w r g b ls) (hp : BookAt w' g b ms) (hv : Valid ms) (hk : KB b w w') : Ahead W w' r g b ls ms :=
  ⟨hp, h.2.1, hv, h.2.2.1.kbm h.1 hk, KB.to_below h.2.2.2.1 hk h.2.2.2.2.1 h.2.2.2.1.size, h.2.2.2.2⟩
theorem Ahead.both (h : Ahead W w r g b ls ms) (hr : RefB w' r ms) (hk : KB r w w') : Both W w' r g b ms :=
  ⟨h.1.kbr h.2.2.2.1 hk, h.2.2.1, hr, KB.to_below h.2.2.2.2.1 hk h.2.2.2.2.2.2 h.2.2.2.2.1.size, h.2.2.2.2.2⟩
end
theorem RefNew_ok {A0 : Option Addr} {c0 : Nat} {l ls : List El} {w : World} (h : newAll l = (0, ls)) (hr : Kd.C k30 w A0 l.length l) (hc : l.length ≤ c0) :
    Calls Try.prog 20 #[.slice A0 l.length c0] w (RefNewOk ls w) := by
  refine (RefNew A0 c0 l w hr hc).mono fun e w' hp => ?_
  unfold RefNewPost at hp
  rw [h, if_pos rfl] at hp
  exact hp
theorem RefNew_err {A0 : Option Addr} {c0 : Nat} {l ls : List El} {c : Int} {w : World} (h : newAll l = (c, ls)) (h0 : c ≠ 0) (hr : Kd.C k30 w A0 l.length l) (hc : l.length ≤ c0) :
    Calls Try.prog 20 #[.slice A0 l.length c0] w fun e w' => e = .returned (.tuple #[.pointer none, .int .i64 c]) ∧ Below w.heap.size w w' := by
  refine (RefNew A0 c0 l w hr hc).mono fun e w' hp => ?_
  unfold RefNewPost at hp
  rw [h, if_neg h0] at hp
  exact hp
set_option maxRecDepth 100000 in
set_option maxHeartbeats 1000000 in
theorem PlansPlay_long (A0 A1 : Option Addr) (c0 c1 : Nat) (l : List El) (ll : List St) (a2 : ByteArray) (a3 : Int) (w : World) (hr : Kd.C k30 w A0 l.length l) (hc : l.length ≤ c0) (hs : Kd.C k47 w A1 ll.length ll) (hc1 : ll.length ≤ c1) (hn : (∀ x ∈ l, x.f0.size ≤ 140737488351232) ∧ (∀ x ∈ ll, x.f1.f0.size ≤ 140737488351232) ∧ a2.size ≤ 140737488351232) (hl : halyardlaw27_long.f 300 l = some true) :
    Calls Try.prog 5 #[.slice A0 l.length c0, .slice A1 ll.length c1, .string a2, .int .i64 a3] w (AliveRet w) := by
  have HR := Aside0.mk hr
  have HS := Aside0.mk hs
  have HR0 := Aside0.mk hr
  have HS0 := Aside0.mk hs
  have HC := Aside0.mk hc
  have HC1 := Aside0.mk hc1
  have HN := Aside0.mk hn
  have HB := Aside0.mk (Below.refl w.heap.size w)
  have huE := Try.underlying30
  have tok1 : True := trivial
  have HL := Aside0.mk hl
  clear hr hs hc hc1 hn hl
  go_enter Try.func5, Try.ntmps5
  go_wp2_with (first
    | (go_at_call 9; have t_ := tok1; go_must (refine (halyardlaw27_long.calls 300 A0 c0 l true _ HR.out HC.out HL.out).mono ?_); go_must (rintro e w1 ⟨rfl, hd⟩; replace HB := Aside0.mk (below_step HB.out (drawn_below hd)); replace HR := Aside0.mk (Kd.C_below HR.out (drawn_below hd)); replace HS := Aside0.mk (Kd.C_below HS.out (drawn_below hd))); clear hd tok1)
    | (go_at_call 10; go_must (refine (alive _).mono ?_); go_must (rintro e w4 ⟨rfl, hb⟩; replace HB := Aside0.mk (below_step HB.out hb)); clear hb))
  go_ret
  exact ⟨rfl, HB.out⟩
set_option maxRecDepth 100000 in
set_option maxHeartbeats 1000000 in
theorem PlansPlay_many (A0 A1 : Option Addr) (c0 c1 : Nat) (l : List El) (ll : List St) (a2 : ByteArray) (a3 : Int) (w : World) (hr : Kd.C k30 w A0 l.length l) (hc : l.length ≤ c0) (hs : Kd.C k47 w A1 ll.length ll) (hc1 : ll.length ≤ c1) (hn : (∀ x ∈ l, x.f0.size ≤ 140737488351232) ∧ (∀ x ∈ ll, x.f1.f0.size ≤ 140737488351232) ∧ a2.size ≤ 140737488351232) (hl : halyardlaw27_long.f 300 l = some false) (n100 : 100 < ll.length) :
    Calls Try.prog 5 #[.slice A0 l.length c0, .slice A1 ll.length c1, .string a2, .int .i64 a3] w (AliveRet w) := by
  have HR := Aside0.mk hr
  have HS := Aside0.mk hs
  have HR0 := Aside0.mk hr
  have HS0 := Aside0.mk hs
  have HC := Aside0.mk hc
  have HC1 := Aside0.mk hc1
  have HN := Aside0.mk hn
  have HB := Aside0.mk (Below.refl w.heap.size w)
  have huE := Try.underlying30
  have tok1 : True := trivial
  have HL := Aside0.mk hl
  have m100 : (100 : Int) < (ll.length : Int) := by omega
  clear hr hs hc hc1 hn hl
  go_enter Try.func5, Try.ntmps5
  go_wp2_with (first
    | (go_at_call 9; have t_ := tok1; go_must (refine (halyardlaw27_long.calls 300 A0 c0 l false _ HR.out HC.out HL.out).mono ?_); go_must (rintro e w1 ⟨rfl, hd⟩; replace HB := Aside0.mk (below_step HB.out (drawn_below hd)); replace HR := Aside0.mk (Kd.C_below HR.out (drawn_below hd)); replace HS := Aside0.mk (Kd.C_below HS.out (drawn_below hd))); clear hd tok1)
    | (go_at_call 10; go_must (refine (alive _).mono ?_); go_must (rintro e w4 ⟨rfl, hb⟩; replace HB := Aside0.mk (below_step HB.out hb)); clear hb))
  go_ret
  exact ⟨rfl, HB.out⟩
set_option maxRecDepth 100000 in
set_option maxHeartbeats 1000000 in
theorem PlansPlay_long2 (A0 A1 : Option Addr) (c0 c1 : Nat) (l : List El) (ll : List St) (a2 : ByteArray) (a3 : Int) (w : World) (hr : Kd.C k30 w A0 l.length l) (hc : l.length ≤ c0) (hs : Kd.C k47 w A1 ll.length ll) (hc1 : ll.length ≤ c1) (hn : (∀ x ∈ l, x.f0.size ≤ 140737488351232) ∧ (∀ x ∈ ll, x.f1.f0.size ≤ 140737488351232) ∧ a2.size ≤ 140737488351232) (hl : halyardlaw27_long.f 300 l = some false) (n100 : ll.length ≤ 100) (ms : List El) (hof : halyardlaw27_of.f 300 ll = some ms) (hl2 : halyardlaw27_long.f 300 ms = some true) :
    Calls Try.prog 5 #[.slice A0 l.length c0, .slice A1 ll.length c1, .string a2, .int .i64 a3] w (AliveRet w) := by
  have HR := Aside0.mk hr
  have HS := Aside0.mk hs
  have HR0 := Aside0.mk hr
  have HS0 := Aside0.mk hs
  have HC := Aside0.mk hc
  have HC1 := Aside0.mk hc1
  have HN := Aside0.mk hn
  have HB := Aside0.mk (Below.refl w.heap.size w)
  have huE := Try.underlying30
  have tok1 : True := trivial
  have HL := Aside0.mk hl
  have m100 : ¬ (100 : Int) < (ll.length : Int) := by omega
  have HOF := Aside0.mk hof
  have HL2 := Aside0.mk hl2
  clear hr hs hc hc1 hn hl hl2 hof
  go_enter Try.func5, Try.ntmps5
  go_wp2_with (first
    | (go_at_call 9; have t_ := tok1; go_must (refine (halyardlaw27_long.calls 300 A0 c0 l false _ HR.out HC.out HL.out).mono ?_); go_must (rintro e w1 ⟨rfl, hd⟩; replace HB := Aside0.mk (below_step HB.out (drawn_below hd)); replace HR := Aside0.mk (Kd.C_below HR.out (drawn_below hd)); replace HS := Aside0.mk (Kd.C_below HS.out (drawn_below hd))); clear hd tok1)
    | (go_at_call 16; go_must (refine (halyardlaw27_of.calls 300 A1 c1 ll ms _ HS.out HC1.out HOF.out).mono ?_); go_must (rintro e w2 ⟨v_, rfl, hr_, hb_⟩; obtain ⟨A2, c2, rfl, hc2_, hC2_⟩ := Kd.R_reads hr_; have HR2 := Aside0.mk hC2_; have HC2 := Aside0.mk hc2_; replace HB := Aside0.mk (below_step HB.out hb_); replace HR := Aside0.mk (Kd.C_below HR.out hb_); replace HS := Aside0.mk (Kd.C_below HS.out hb_)); clear hr_ hb_ hC2_ hc2_)
    | (go_at_call 9; go_must (refine (halyardlaw27_long.calls 300 A2 c2 ms true _ HR2.out HC2.out HL2.out).mono ?_); go_must (rintro e w3 ⟨rfl, hd⟩; replace HB := Aside0.mk (below_step HB.out (drawn_below hd)); replace HR := Aside0.mk (Kd.C_below HR.out (drawn_below hd)); replace HS := Aside0.mk (Kd.C_below HS.out (drawn_below hd))); clear hd)
    | (go_at_call 10; go_must (refine (alive _).mono ?_); go_must (rintro e w4 ⟨rfl, hb⟩; replace HB := Aside0.mk (below_step HB.out hb)); clear hb))
  go_ret
  exact ⟨rfl, HB.out⟩
set_option maxRecDepth 100000 in
set_option maxHeartbeats 1000000 in
theorem PlansPlay_name (A0 A1 : Option Addr) (c0 c1 : Nat) (l : List El) (ll : List St) (a2 : ByteArray) (a3 : Int) (w : World) (hr : Kd.C k30 w A0 l.length l) (hc : l.length ≤ c0) (hs : Kd.C k47 w A1 ll.length ll) (hc1 : ll.length ≤ c1) (hn : (∀ x ∈ l, x.f0.size ≤ 140737488351232) ∧ (∀ x ∈ ll, x.f1.f0.size ≤ 140737488351232) ∧ a2.size ≤ 140737488351232) (hl : halyardlaw27_long.f 300 l = some false) (n100 : ll.length ≤ 100) (ms : List El) (hof : halyardlaw27_of.f 300 ll = some ms) (hl2 : halyardlaw27_long.f 300 ms = some false) (hz : 1024 < a2.size) :
    Calls Try.prog 5 #[.slice A0 l.length c0, .slice A1 ll.length c1, .string a2, .int .i64 a3] w (AliveRet w) := by
  have HR := Aside0.mk hr
  have HS := Aside0.mk hs
  have HR0 := Aside0.mk hr
  have HS0 := Aside0.mk hs
  have HC := Aside0.mk hc
  have HC1 := Aside0.mk hc1
  have HN := Aside0.mk hn
  have HB := Aside0.mk (Below.refl w.heap.size w)
  have huE := Try.underlying30
  have tok1 : True := trivial
  have HL := Aside0.mk hl
  have m100 : ¬ (100 : Int) < (ll.length : Int) := by omega
  have HOF := Aside0.mk hof
  have HL2 := Aside0.mk hl2
  have z1 : (1024 : Int) < (a2.size : Int) := by omega
  clear hr hs hc hc1 hn hl hl2 hof
  go_enter Try.func5, Try.ntmps5
  go_wp2_with (first
    | (go_at_call 9; have t_ := tok1; go_must (refine (halyardlaw27_long.calls 300 A0 c0 l false _ HR.out HC.out HL.out).mono ?_); go_must (rintro e w1 ⟨rfl, hd⟩; replace HB := Aside0.mk (below_step HB.out (drawn_below hd)); replace HR := Aside0.mk (Kd.C_below HR.out (drawn_below hd)); replace HS := Aside0.mk (Kd.C_below HS.out (drawn_below hd))); clear hd tok1)
    | (go_at_call 16; go_must (refine (halyardlaw27_of.calls 300 A1 c1 ll ms _ HS.out HC1.out HOF.out).mono ?_); go_must (rintro e w2 ⟨v_, rfl, hr_, hb_⟩; obtain ⟨A2, c2, rfl, hc2_, hC2_⟩ := Kd.R_reads hr_; have HR2 := Aside0.mk hC2_; have HC2 := Aside0.mk hc2_; replace HB := Aside0.mk (below_step HB.out hb_); replace HR := Aside0.mk (Kd.C_below HR.out hb_); replace HS := Aside0.mk (Kd.C_below HS.out hb_)); clear hr_ hb_ hC2_ hc2_)
    | (go_at_call 9; go_must (refine (halyardlaw27_long.calls 300 A2 c2 ms false _ HR2.out HC2.out HL2.out).mono ?_); go_must (rintro e w3 ⟨rfl, hd⟩; replace HB := Aside0.mk (below_step HB.out (drawn_below hd)); replace HR := Aside0.mk (Kd.C_below HR.out (drawn_below hd)); replace HS := Aside0.mk (Kd.C_below HS.out (drawn_below hd))); clear hd)
    | (go_at_call 10; go_must (refine (alive _).mono ?_); go_must (rintro e w4 ⟨rfl, hb⟩; replace HB := Aside0.mk (below_step HB.out hb)); clear hb))
  go_ret
  exact ⟨rfl, HB.out⟩
set_option maxRecDepth 100000 in
set_option maxHeartbeats 1000000 in
theorem PlansPlay_err (A0 A1 : Option Addr) (c0 c1 : Nat) (l : List El) (ll : List St) (a2 : ByteArray) (a3 : Int) (w : World) (hr : Kd.C k30 w A0 l.length l) (hc : l.length ≤ c0) (hs : Kd.C k47 w A1 ll.length ll) (hc1 : ll.length ≤ c1) (hn : (∀ x ∈ l, x.f0.size ≤ 140737488351232) ∧ (∀ x ∈ ll, x.f1.f0.size ≤ 140737488351232) ∧ a2.size ≤ 140737488351232) (hl : halyardlaw27_long.f 300 l = some false) (n100 : ll.length ≤ 100) (ms : List El) (hof : halyardlaw27_of.f 300 ll = some ms) (hl2 : halyardlaw27_long.f 300 ms = some false) (hz : a2.size ≤ 1024) (h100 : l.length ≤ 100) (c : Int) (ls : List El) (hna : newAll l = (c, ls)) (h0 : c ≠ 0) :
    Calls Try.prog 5 #[.slice A0 l.length c0, .slice A1 ll.length c1, .string a2, .int .i64 a3] w (AliveRet w) := by
  have HR := Aside0.mk hr
  have HS := Aside0.mk hs
  have HR0 := Aside0.mk hr
  have HS0 := Aside0.mk hs
  have HC := Aside0.mk hc
  have HC1 := Aside0.mk hc1
  have HN := Aside0.mk hn
  have HB := Aside0.mk (Below.refl w.heap.size w)
  have huE := Try.underlying30
  have tok1 : True := trivial
  have HL := Aside0.mk hl
  have m100 : ¬ (100 : Int) < (ll.length : Int) := by omega
  have HOF := Aside0.mk hof
  have HL2 := Aside0.mk hl2
  have z1 : ¬ (1024 : Int) < (a2.size : Int) := by omega
  have HNA := Aside0.mk hna
  have HZ := Aside0.mk h0
  have hcb : (c == 0) = false := beq_eq_false_iff_ne.mpr h0
  have hcn : (c != 0) = true := bne_iff_ne.mpr h0
  clear hr hs hc hc1 hn hl hl2 hof hna h0
  go_enter Try.func5, Try.ntmps5
  go_wp2_with (first
    | (go_at_call 9; have t_ := tok1; go_must (refine (halyardlaw27_long.calls 300 A0 c0 l false _ HR.out HC.out HL.out).mono ?_); go_must (rintro e w1 ⟨rfl, hd⟩; replace HB := Aside0.mk (below_step HB.out (drawn_below hd)); replace HR := Aside0.mk (Kd.C_below HR.out (drawn_below hd)); replace HS := Aside0.mk (Kd.C_below HS.out (drawn_below hd))); clear hd tok1)
    | (go_at_call 16; go_must (refine (halyardlaw27_of.calls 300 A1 c1 ll ms _ HS.out HC1.out HOF.out).mono ?_); go_must (rintro e w2 ⟨v_, rfl, hr_, hb_⟩; obtain ⟨A2, c2, rfl, hc2_, hC2_⟩ := Kd.R_reads hr_; have HR2 := Aside0.mk hC2_; have HC2 := Aside0.mk hc2_; replace HB := Aside0.mk (below_step HB.out hb_); replace HR := Aside0.mk (Kd.C_below HR.out hb_); replace HS := Aside0.mk (Kd.C_below HS.out hb_)); clear hr_ hb_ hC2_ hc2_)
    | (go_at_call 9; go_must (refine (halyardlaw27_long.calls 300 A2 c2 ms false _ HR2.out HC2.out HL2.out).mono ?_); go_must (rintro e w3 ⟨rfl, hd⟩; replace HB := Aside0.mk (below_step HB.out (drawn_below hd)); replace HR := Aside0.mk (Kd.C_below HR.out (drawn_below hd)); replace HS := Aside0.mk (Kd.C_below HS.out (drawn_below hd))); clear hd)
    | (go_at_call 14; refine (OfNil _ _).mono ?_; rintro e w5 ⟨rfl, hb⟩; have HB_ := Aside0.mk (below_step (by repeat (first | (with_reducible first | exact HB.out | apply below_alloc | apply pw_below_drewN | apply below_drew1 | apply below_drew) | (refine Below.setCell ?_ (by first | (simp; done) | (simp; omega)) _))) hb); replace HB := HB_; clear HB_ hb; have zz := HB.out.size)
    | (go_at_call 12; refine (FitsNil _ _).mono ?_; rintro e w6 ⟨rfl, hb⟩; have HB_ := Aside0.mk (below_step (by repeat (first | (with_reducible first | exact HB.out | apply below_alloc | apply pw_below_drewN | apply below_drew1 | apply below_drew) | (refine Below.setCell ?_ (by first | (simp; done) | (simp; omega)) _))) hb); replace HB := HB_; clear HB_ hb; have zz := HB.out.size)
    | (go_at_call 17; refine (AddNil z30 _).mono ?_; rintro e w7 ⟨rfl, hb⟩; have HB_ := Aside0.mk (below_step (by repeat (first | (with_reducible first | exact HB.out | apply below_alloc | apply pw_below_drewN | apply below_drew1 | apply below_drew) | (refine Below.setCell ?_ (by first | (simp; done) | (simp; omega)) _))) hb); replace HB := HB_; clear HB_ hb; have zz := HB.out.size)
    | (go_at_call 18; refine (DelNil _ _).mono ?_; rintro e w8 ⟨rfl, hb⟩; have HB_ := Aside0.mk (below_step (by repeat (first | (with_reducible first | exact HB.out | apply below_alloc | apply pw_below_drewN | apply below_drew1 | apply below_drew) | (refine Below.setCell ?_ (by first | (simp; done) | (simp; omega)) _))) hb); replace HB := HB_; clear HB_ hb; have zz := HB.out.size)
    | (go_at_call 13; refine (ListNil  _).mono ?_; rintro e w9 ⟨rfl, hb⟩; have HB_ := Aside0.mk (below_step (by repeat (first | (with_reducible first | exact HB.out | apply below_alloc | apply pw_below_drewN | apply below_drew1 | apply below_drew) | (refine Below.setCell ?_ (by first | (simp; done) | (simp; omega)) _))) hb); replace HB := HB_; clear HB_ hb; have zz := HB.out.size)
    | (go_at_call 19; refine (CopyNil  _).mono ?_; rintro e w10 ⟨rfl, hb⟩; have HB_ := Aside0.mk (below_step (by repeat (first | (with_reducible first | exact HB.out | apply below_alloc | apply pw_below_drewN | apply below_drew1 | apply below_drew) | (refine Below.setCell ?_ (by first | (simp; done) | (simp; omega)) _))) hb); replace HB := HB_; clear HB_ hb; have zz := HB.out.size)
    | (at_builtin; refine wp_appendC _ rfl _ _ 22 rfl 0 30 (.agg #[.string ⟨#[]⟩, .int .i64 0]) 24 Try.underlying22 infoEl rfl (.slice none 0 0) 0 [] rfl (own_nil _ _ _ _) (.slice A0 l.length c0) l.length (l.flatMap cel) rfl (src_C (Kd.C_below HR0.out (by repeat (first | (with_reducible first | exact HB.out | apply below_alloc | apply pw_below_drewN | apply below_drew1 | apply below_drew) | (refine Below.setCell ?_ (by first | (simp; done) | (simp; omega)) _)))) c0) (cells_one _) (by unfold maxLen; omega) (by omega) (Nat.zero_le _) ?_; intro v1 w11 own1 gr1; go_must (rw [Nat.zero_add, List.nil_append] at own1; have HB_ := Aside0.mk (Below.grown (by repeat (first | (with_reducible first | exact HB.out | apply below_alloc | apply pw_below_drewN | apply below_drew1 | apply below_drew) | (refine Below.setCell ?_ (by first | (simp; done) | (simp; omega)) _))) gr1 (by have := HB.out.size; simp at *; omega) (fun j hj => by simp [Value.ownBlock] at hj)); replace HB := HB_; obtain ⟨A5, c5, rfl, hc5, hC5, _⟩ := C_of_own own1; have HR5 := Aside0.mk hC5; have HC5 := Aside0.mk hc5; clear HB_ own1 gr1 hC5 hc5; have zz := HB.out.size))
    | (go_at_call 11; go_must (refine (New_err HNA.out HZ.out HR5.out HC5.out HN.out.1).mono ?_); go_must (rintro e w12 ⟨rfl, hb⟩; replace HB := Aside0.mk (below_step HB.out hb)); clear hb)
    | (go_at_call 20; go_must (refine (RefNew_err HNA.out HZ.out (Kd.C_below HR0.out HB.out) HC.out).mono ?_); go_must (rintro e w13 ⟨rfl, hb⟩; replace HB := Aside0.mk (below_step HB.out hb)); clear hb)
    | (go_at_call 10; go_must (refine (alive _).mono ?_); go_must (rintro e w4 ⟨rfl, hb⟩; replace HB := Aside0.mk (below_step HB.out hb)); clear hb))
  go_ret
  exact ⟨rfl, HB.out⟩
end Go.Proofs.YtdahijckoblbgaaHVP
