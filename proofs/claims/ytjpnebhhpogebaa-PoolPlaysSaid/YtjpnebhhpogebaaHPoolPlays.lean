
import Derived.Deep.DeepCutAuto
import Derived.Deep.RegionWith
import Derived.Deep.RegionHeld3
import Derived.IntWalk
import Derived.Test.YtjpnebhhpogebaaHPool16
import Derived.Test.YtjpnebhhpogebaaHPool6
import Derived.Test.YtjpnebhhpogebaaHPool7
import Derived.Test.YtjpnebhhpogebaaHPool10
import Derived.Test.YtjpnebhhpogebaaHPoolCounts
import Derived.Test.YtjpnebhhpogebaaPG26x5
namespace Go.Proofs.YtjpnebhhpogebaaHPool
open Go.RowKit Go.Proofs.YtjpnebhhpogebaaW.PrintWords Go.Proofs.YtjpnebhhpogebaaHW Go.Proofs.YtjpnebhhpogebaaHG Go.Proofs.Ytjpnebhhpogebaa.PG26
set_option linter.unusedVariables false
set_option linter.unusedSimpArgs false
theorem May_yes (a0 a1 : Int) (n1 : 1 ≤ a1) (n2 : a1 ≤ 1024) (b1 : 1 ≤ a0) (b2 : a0 + a1 ≤ 4294967296) : halyardref26_May.f a0 a1 = some true := by
  unfold halyardref26_May.f
  rw [if_pos n1, if_pos n2, if_neg (by omega)]
  have s1 : IntKind.u64.wrap a0 = a0 := by rw [IntKind.wrap_u64]; omega
  have s2 : IntKind.u64.wrap a1 = a1 := by rw [IntKind.wrap_u64]; omega
  have s3 : IntKind.u64.wrap (a0 + a1) = a0 + a1 := by rw [IntKind.wrap_u64]; omega
  have s4 : IntKind.u64.wrap (a0 + a1 - 1) = a0 + a1 - 1 := by rw [IntKind.wrap_u64]; omega
  simp only [s1, s2, s3, s4]
  rw [decide_eq_true (by omega)]
theorem MapIs.blk {P : Program} {k : TypeId} {zv : Value} {w : World} {b : Nat} {M : Lit → Option Value} {c : Nat} (h : MapIs P k zv w b M c) : ∃ es clock, w.heap[b]? = some (.map es clock) := by
  obtain ⟨D, ⟨es, clock, h1, h2⟩, h3⟩ := h
  exact ⟨es, clock, h1⟩
/-- A block of the pool's map turns: the document's row stands. -/
theorem RefAt.kbm {B r b g : Nat} {w w' : World} {base n base' n' : Int} {ls : List (Int × ByteArray)} {M : Int → Option ByteArray} {c : Nat} (h : RefAt B w r base n ls) (hp : PoolAt w g b base' n' M c) (hk : KB b w w') : RefAt B w' r base n ls := by
  obtain ⟨v, h1, h2, h3⟩ := h
  obtain ⟨es, clk, hm⟩ := MapIs.blk hp.2.1
  have hb : ∀ j o, w.heap[j]? = some o → (∀ es clk, o ≠ Obj.map es clk) → w'.heap[j]? = some o := fun j o hj ho => KB.block hk hj (fun e => by subst e; rw [hm] at hj; exact ho _ _ (Option.some.inj hj).symm)
  refine ⟨v, hb _ _ h1 (by intros; simp), ?_, h3⟩
  obtain ⟨q1, q2⟩ := h2
  refine ⟨q1, ?_⟩
  rcases q2 with q2 | ⟨gg, cap, cur, e1, e2, e3, e4⟩
  · exact Or.inl q2
  · exact Or.inr ⟨gg, cap, cur, e1, e2, hb _ _ e3 (by intros; simp), e4⟩
/-- The document's own block turns: the pool stands. -/
theorem PoolAt.kbr {B r b g : Nat} {w w' : World} {base n base' n' : Int} {ls : List (Int × ByteArray)} {M : Int → Option ByteArray} {c : Nat} (hp : PoolAt w g b base' n' M c) (h : RefAt B w r base n ls) (hk : KB r w w') : PoolAt w' g b base' n' M c := by
  obtain ⟨v, h1, h2, h3⟩ := h
  obtain ⟨es, clk, hm⟩ := MapIs.blk hp.2.1
  refine ⟨KB.block hk hp.1 (fun e => ?_), hp.2.1.heap ((KB.block hk hm (fun e => ?_)).trans hm.symm), hp.2.2⟩
  · subst e
    have := hp.1
    rw [h1] at this
    exact absurd (Option.some.inj this) (by simp)
  · subst e
    rw [hm] at h1
    exact absurd (Option.some.inj h1) (by simp)
theorem PoolAt.kbo {b b' g g' : Nat} {w w' : World} {base n base' n' : Int} {M M' : Int → Option ByteArray} {c c' : Nat} (hp : PoolAt w g b base n M c) (hq : PoolAt w g' b' base' n' M' c') (hne : b ≠ b') (hk : KB b' w w') : PoolAt w' g b base n M c := by
  obtain ⟨es, clk, hm⟩ := MapIs.blk hp.2.1
  obtain ⟨es', clk', hm'⟩ := MapIs.blk hq.2.1
  refine ⟨KB.block hk hp.1 (fun e => ?_), hp.2.1.heap ((KB.block hk hm hne).trans hm.symm), hp.2.2⟩
  subst e
  have := hp.1
  rw [hm'] at this
  exact absurd (Option.some.inj this) (by simp)
/-- Both sides at a round's head. -/
def Both (W w : World) (r g b : Nat) (base n : Int) (M : Int → Option ByteArray) (c : Nat) : Prop :=
  PoolAt w g b base n M c ∧ Valid base n M c ∧ RefAt 0 w r base n (leases base M n.toNat) ∧ Below W.heap.size W w ∧ W.heap.size ≤ b ∧ W.heap.size ≤ r
section
variable {W w w' : World} {r g b : Nat} {base n : Int} {M M' : Int → Option ByteArray} {c c' : Nat}
theorem Both.below (h : Both W w r g b base n M c) (hb : Below w.heap.size w w') : Both W w' r g b base n M c :=
  ⟨h.1.kb hb, h.2.1, h.2.2.1.below hb, below_step h.2.2.2.1 hb, h.2.2.2.2⟩
theorem Both.new (hp : PoolAt w g b base n M c) (hv : Valid base n M c) (hr : RefAt 0 w r base n (leases base M n.toNat)) (hB : Below W.heap.size W w) (h1 : W.heap.size ≤ b) (h2 : W.heap.size ≤ r) : Both W w r g b base n M c := ⟨hp, hv, hr, hB, h1, h2⟩
theorem Both.kbo {go bo : Nat} {Mo : Int → Option ByteArray} {co : Nat} (h : Both W w r g b base n M c) (ho : PoolAt w go bo base n Mo co) (hne : b ≠ bo) (hk : KB bo w w') (hW : W.heap.size ≤ bo) : Both W w' r g b base n M c :=
  ⟨h.1.kbo ho hne hk, h.2.1, h.2.2.1.kbm ho hk, KB.to_below h.2.2.2.1 hk hW h.2.2.2.1.size, h.2.2.2.2⟩
theorem LeastIs.bd {a : Int} {is : Bool} (h : LeastIs base n M a is) (h1 : 1 ≤ base) (h2 : base + n ≤ 4294967296) : 0 ≤ a ∧ a < 4294967296 := by
  rcases h with ⟨rfl, k, hk, rfl, _⟩ | ⟨rfl, rfl, _⟩ <;> omega
/-- What was there stands, in a form that no draw turns. -/
def Bl (w w' : World) : Prop := w'.os = w.os ∧ w'.tape = w.tape ∧ w'.output = w.output ∧ w.heap.size ≤ w'.heap.size ∧ ∀ j, j < w.heap.size → w'.heap[j]? = w.heap[j]?
theorem Bl.of {w w' : World} (h : Below w.heap.size w w') : Bl w w' := ⟨h.os, h.tape, h.output, h.size, h.block⟩
theorem Bl.below {w w' : World} (h : Bl w w') : Below w.heap.size w w' := ⟨h.1, h.2.1, h.2.2.1, h.2.2.2.1, h.2.2.2.2⟩
theorem Both.bl (h : Both W w r g b base n M c) (hb : Bl w w') : Both W w' r g b base n M c := h.below hb.below
theorem leases_none (base : Int) : ∀ k : Nat, leases base (fun _ => none) k = []
  | 0 => rfl
  | k + 1 => by simp [leases, leases_none base k]
/-- One side is ahead. -/
def Ahead (W w : World) (r g b : Nat) (base n : Int) (M M' : Int → Option ByteArray) (c c' : Nat) : Prop :=
  PoolAt w g b base n M' c' ∧ Valid base n M c ∧ Valid base n M' c' ∧ RefAt 0 w r base n (leases base M n.toNat) ∧ Below W.heap.size W w ∧ W.heap.size ≤ b ∧ W.heap.size ≤ r
theorem Both.ahead (h : Both W w r g b base n M c) (hp : PoolAt w' g b base n M' c') (hv : Valid base n M' c') (hk : KB b w w') : Ahead W w' r g b base n M M' c c' :=
  ⟨hp, h.2.1, hv, h.2.2.1.kbm h.1 hk, KB.to_below h.2.2.2.1 hk h.2.2.2.2.1 h.2.2.2.1.size, h.2.2.2.2⟩
theorem Ahead.both (h : Ahead W w r g b base n M M' c c') (hr : RefAt 0 w' r base n (leases base M' n.toNat)) (hk : KB r w w') : Both W w' r g b base n M' c' :=
  ⟨h.1.kbr h.2.2.2.1 hk, h.2.2.1, hr, KB.to_below h.2.2.2.2.1 hk h.2.2.2.2.2.2 h.2.2.2.2.1.size, h.2.2.2.2.2⟩
theorem Ahead.drewN (h : Ahead W w r g b base n M M' c c') (k : Nat) : Ahead W (w.drewN k) r g b base n M M' c c' :=
  have hb : Below w.heap.size w (w.drewN k) := pw_below_drewN (Below.refl _ _) k
  ⟨h.1.kb hb, h.2.1, h.2.2.1, h.2.2.2.1.below hb, below_step h.2.2.2.2.1 hb, h.2.2.2.2.2⟩
end
set_option maxRecDepth 100000 in
set_option maxHeartbeats 8000000 in
theorem PoolPlays_yes (a0 a1 a3 : Int) (A2 : Option Addr) (c2 : Nat) (l2 : List S41) (w : World) (_l3 : 0 ≤ a3) (_u3 : a3 < 4294967296) (hr2 : Kd.C k41 w A2 l2.length l2) (hc2 : l2.length ≤ c2) (hI2 : ∀ x ∈ l2, 0 ≤ x.f1 ∧ x.f1 ≤ 4294967295)
    (n1 : 1 ≤ a1) (n2 : a1 ≤ 1024) (b1 : 1 ≤ a0) (b2 : a0 + a1 ≤ 4294967296) (hl : halyardlaw26_long.f 300 l2 = some false) (h100 : l2.length ≤ 100) :
    Calls Try.prog 5 #[.int .u32 a0, .int .i64 a1, .slice A2 l2.length c2, .int .u32 a3] w (AliveRet w) := by
  have HB := Aside0.mk (Below.refl w.heap.size w)
  have HR := Aside0.mk hr2
  have HR0 := Aside0.mk hr2
  have HI := Aside0.mk hI2
  have HL := Aside0.mk hl
  have HC := Aside0.mk hc2
  have HM := Aside0.mk (May_yes a0 a1 n1 n2 b1 b2)
  have b1_ := b1
  have b2_ := b2
  clear hr2 hI2 hl hc2
  go_enter Try.func5, Try.ntmps5
  go_wp2_with (first
    | (go_at_call 13; go_must (refine (halyardlaw26_long.calls 300 A2 c2 l2 false _ HR.out HC.out HL.out).mono ?_); rintro e w1 ⟨rfl, hd⟩; replace HB := Aside0.mk (below_step HB.out (drawn_below hd)); replace HR := Aside0.mk (Kd.C_below HR.out (drawn_below hd)); clear hd)
    | (go_at_call 8; refine (LeastNil  _).mono ?_; rintro e w1 ⟨rfl, hb⟩; replace HB := Aside0.mk (below_step HB.out hb); replace HR := Aside0.mk (Kd.C_below HR.out hb); clear hb) | (go_at_call 14; refine (OwnerNil _ _).mono ?_; rintro e w1 ⟨rfl, hb⟩; replace HB := Aside0.mk (below_step HB.out hb); replace HR := Aside0.mk (Kd.C_below HR.out hb); clear hb) | (go_at_call 10; refine (ClaimNil _ _ _).mono ?_; rintro e w1 ⟨rfl, hb⟩; replace HB := Aside0.mk (below_step HB.out hb); replace HR := Aside0.mk (Kd.C_below HR.out hb); clear hb) | (go_at_call 12; refine (GiveNil _ _).mono ?_; rintro e w1 ⟨rfl, hb⟩; replace HB := Aside0.mk (below_step HB.out hb); replace HR := Aside0.mk (Kd.C_below HR.out hb); clear hb) | (go_at_call 15; refine (HasNil _ _).mono ?_; rintro e w1 ⟨rfl, hb⟩; replace HB := Aside0.mk (below_step HB.out hb); replace HR := Aside0.mk (Kd.C_below HR.out hb); clear hb) | (go_at_call 9; refine (FreeNil  _).mono ?_; rintro e w1 ⟨rfl, hb⟩; replace HB := Aside0.mk (below_step HB.out hb); replace HR := Aside0.mk (Kd.C_below HR.out hb); clear hb) | (go_at_call 11; refine (ListNil  _).mono ?_; rintro e w1 ⟨rfl, hb⟩; replace HB := Aside0.mk (below_step HB.out hb); replace HR := Aside0.mk (Kd.C_below HR.out hb); clear hb) | (go_at_call 16; refine (CopyNil  _).mono ?_; rintro e w1 ⟨rfl, hb⟩; replace HB := Aside0.mk (below_step HB.out hb); replace HR := Aside0.mk (Kd.C_below HR.out hb); clear hb)
    | (go_at_call 6; go_must (refine (NewYes a0 a1 _ n1 n2 b1 b2).mono ?_); rintro e w2 ⟨g, b, rfl, hP, hg0, hb0, hbl⟩; have P := Aside0.mk hP; have hg1 := Nat.le_trans HB.out.size hg0; have hb1 := Nat.le_trans HB.out.size hb0; replace HB := Aside0.mk (below_step HB.out hbl); replace HR := Aside0.mk (Kd.C_below HR.out hbl); clear hP hg0 hb0 hbl)
    | (go_at_call 17; go_must (refine (halyardref26_May.calls a0 a1 true _ HM.out).mono ?_); rintro e w3 ⟨rfl, hd⟩; replace HB := Aside0.mk (below_step HB.out (drawn_below hd)); replace HR := Aside0.mk (Kd.C_below HR.out (drawn_below hd)); replace P := Aside0.mk (P.out.kb (drawn_below hd)); clear hd))
  go_loopg [14, 17] l2.length (fun gk v14 v17 wr => ∃ (i g1 b1 : Nat) (M : Int → Option ByteArray) (c : Nat), i ≤ l2.length ∧ gk = l2.length - i ∧ v17 = .int .i64 (i : Int) ∧ v14 = .pointer (some ⟨g1, 0, none⟩) ∧ Aside0 (Both w wr w3.heap.size g1 b1 a0 a1 M c))
  case atStart =>
    have hb := (Below.refl w3.heap.size w3).alloc (Nat.le_refl _) (Obj.cells #[Value.int IntKind.u32 a0, Value.int IntKind.i64 a1, Value.slice none 0 0] 50)
    exact ⟨0, g, b, fun _ => none, 0, by omega, by omega, rfl, rfl, ⟨P.out.kb hb, valid0 a0 a1 n1 n2 b1_ b2_, by rw [leases_none]; exact ⟨_, heap_alloc_new w3 _, World.ownsRow_nil _ _ _ _, by simp [Value.ownBlock]⟩, below_step HB.out hb, hb1, HB.out.size⟩⟩
  case round =>
    clear P HB HR
    obtain ⟨i, g1, b1, M, c, hi, rfl, rfl, rfl, J⟩ := hrel
    have HR := Aside0.mk (Kd.C_below HR0.out J.out.2.2.2.1)
    by_cases hlt : i < l2.length
    · obtain ⟨x, hx⟩ : ∃ x, x = rd_T41 l2 i := ⟨_, rfl⟩
      obtain ⟨ad, rfl, q0, q1, q2, q3⟩ := at_T41 HR.out (i : Int) (by omega) (by omega)
      rw [← hx, Int.toNat_natCast] at q0 q1 q2 q3
      have hxm : x ∈ l2 := by
        rw [hx]; unfold rd_T41
        rw [Int.toNat_natCast, List.getD_eq_getElem?_getD, List.getElem?_eq_getElem hlt]
        exact List.getElem_mem _
      obtain ⟨x0, x1⟩ := HI.out x hxm
      obtain ⟨j, hj⟩ : ∃ j : Nat, x.f1 % (a1 + 2) = j := ⟨(x.f1 % (a1 + 2)).toNat, by have := Int.emod_nonneg x.f1 (show a1 + 2 ≠ 0 by omega); omega⟩
      have hj2 : (j : Int) < a1 + 2 := by rw [← hj]; exact Int.emod_lt_of_pos _ (by omega)
      have s0 : IntKind.u32.wrap (a1 + 2) = a1 + 2 := by rw [IntKind.wrap_u32]; omega
      clear hx hxm
      go_upto_if 123 with fail
      go_cut [19] (fun v19 wx => ∃ ai : Int, v19 = .int .u32 ai ∧ Aside0 (0 ≤ ai ∧ ai < 4294967296) ∧ wx = wr.alloc (Obj.cells #[Value.int IntKind.i64 x.f0, Value.int IntKind.u32 x.f1, Value.bool x.f2, Value.string x.f3] 41))
      case first =>
        go_wp2_with fail
        all_goals (go_meet; rename_i h_; exact ⟨_, rfl, ⟨by omega, by omega⟩, by rw [h_]⟩)
      case rest =>
        obtain ⟨ai, rfl, ha, rfl⟩ := hcut
        have hslt : wr.heap.size ≠ w3.heap.size := by obtain ⟨v_, h_, _⟩ := J.out.2.2.1; exact Nat.ne_of_gt (blk_lt h_)
        have hb1lt : wr.heap.size ≠ b1 := Nat.ne_of_gt (J.out.1.2.1.lt)
        have JB := Aside0.mk (((Below.refl wr.heap.size wr).alloc (Nat.le_refl _) (Obj.cells #[Value.int IntKind.i64 x.f0, Value.int IntKind.u32 x.f1, Value.bool x.f2, Value.string x.f3] 41)))
        replace J := Aside0.mk (J.out.below JB.out)
        have HS := Aside0.mk (heap_alloc_new wr (Obj.cells #[Value.int IntKind.i64 x.f0, Value.int IntKind.u32 x.f1, Value.bool x.f2, Value.string x.f3] 41))
        clear q0 q1 q2 q3 x0 x1 hj hj2 s0 JB
        go_upto_block 2 with fail
        go_cut [14, 20] (fun v14 v20 wx => ∃ (g2 b2 : Nat) (M2 : Int → Option ByteArray) (c2 : Nat), v14 = .pointer (some ⟨g2, 0, none⟩) ∧ v20 = .bool true ∧ Aside0 (Both w wx w3.heap.size g2 b2 a0 a1 M2 c2))
        case first =>
          by_cases d0 : x.f0 = 0
          · have e0 : (x.f0 == 0) = true := beq_iff_eq.mpr d0
            clear d0
            as_aux_lemma =>
              go_upto_region 24 with fail
              go_region_held3 (fun w' => w'.cell? ⟨wr.heap.size, 3, none⟩ = some (.string x.f3)) (first | exact HS6 | exact HS5 | go_keep)
                (first
                  | (go_at_call 10; (refine (ClaimAll g1 b1 a0 a1 ai M c x.f3 _ ?_ J.out.2.1 ha.out.1 ha.out.2).mono ?_; exact J.out.1); (rintro e w5 ⟨rfl, hP, hv, hk⟩; have J5 := Aside0.mk (Both.ahead J.out hP hv hk); have HS5' := Aside0.mk (KB.block hk HS.out hb1lt); have HS5 := blk_cell HS5'.out 3); simp only [List.getElem?_toArray, List.getElem?_cons_zero, List.getElem?_cons_succ] at HS5; clear hP hv hk)
                  | (go_at_call 18; (refine (RefClaimAll 0 _ a0 a1 ai M c x.f3 _ ?_ J5.out.2.1 ha.out.1 ha.out.2 (Nat.zero_le _)).mono ?_; exact J5.out.2.2.2.1); (rintro e w6 ⟨rfl, hr, hk⟩; have J6 := Aside0.mk (Ahead.both J5.out hr hk); have HS6 := blk_cell (KB.block hk HS5'.out hslt) 3); simp only [List.getElem?_toArray, List.getElem?_cons_zero, List.getElem?_cons_succ] at HS6; clear hr hk))
              all_goals (go_wp2_with fail; go_meet; exact ⟨g1, b1, _, _, rfl, rfl, J6⟩)
          · have e0 : (x.f0 == 0) = false := beq_eq_false_iff_ne.mpr d0
            by_cases d1 : x.f0 = 1
            · have e1 : (x.f0 == 1) = true := beq_iff_eq.mpr d1
              clear d0 d1
              as_aux_lemma =>
                go_wp2_with (first
                  | (go_at_call 12; go_must (refine (GiveAll g1 b1 a0 a1 ai M c _ ?_ J.out.2.1 ha.out.1 ha.out.2).mono ?_; exact J.out.1); go_must (rintro e w5 ⟨rfl, hP, hv, hk⟩; have J5 := Aside0.mk (Both.ahead J.out hP hv hk)); clear hP hv hk)
                  | (go_at_call 19; go_must (refine (RefGiveAll 0 _ a0 a1 ai M c _ ?_ J5.out.2.1 (Nat.zero_le _)).mono ?_; exact J5.out.2.2.2.1); go_must (rintro e w6 ⟨rfl, hr, hk⟩; have J6 := Aside0.mk (Ahead.both J5.out hr hk)); clear hr hk))
                go_meet
                exact ⟨g1, b1, _, _, rfl, rfl, J6⟩
            · have e1 : (x.f0 == 1) = false := beq_eq_false_iff_ne.mpr d1
              by_cases d2 : x.f0 = 2
              · have e2 : (x.f0 == 2) = true := beq_iff_eq.mpr d2
                clear d0 d1 d2
                as_aux_lemma =>
                  go_upto_region 30 with (first
                    | (go_at_call 8; go_must (refine (Least g1 b1 a0 a1 M c _ J.out.1 J.out.2.1).mono ?_); go_must (rintro e w5 ⟨u5, is5, rfl, hL, hb⟩; have HL := Aside0.mk hL; replace J := Aside0.mk (J.out.below hb); replace HS := Aside0.mk (hw_below HS.out hb)); clear hb hL)
                    | (go_at_call 20; go_must (refine (RefLeast 0 _ a0 a1 M c _ J.out.2.2.1 J.out.2.1).mono ?_); go_must (rintro e w6 ⟨u6, is6, rfl, hL6, hb⟩; obtain ⟨rfl, rfl⟩ := LeastIs.uniq HL.out hL6; replace J := Aside0.mk (J.out.below hb); replace HS := Aside0.mk (hw_below HS.out hb)); clear hb hL6))
                  have hu := Aside0.mk (LeastIs.bd HL.out b1_ b2_)
                  have q := blk_cell HS.out 3
                  simp only [List.getElem?_toArray, List.getElem?_cons_zero, List.getElem?_cons_succ] at q
                  go_region_held3 (fun w' => w'.cell? ⟨wr.heap.size, 3, none⟩ = some (.string x.f3)) (first | exact HS6 | exact HS5 | go_keep)
                (first
                  | (go_at_call 10; (refine (ClaimAll g1 b1 a0 a1 u5 M c x.f3 _ ?_ J.out.2.1 hu.out.1 hu.out.2).mono ?_; exact J.out.1); (rintro e w7 ⟨rfl, hP, hv, hk⟩; have J5 := Aside0.mk (Both.ahead J.out hP hv hk); have HS5' := Aside0.mk (KB.block hk HS.out hb1lt); have HS5 := blk_cell HS5'.out 3); simp only [List.getElem?_toArray, List.getElem?_cons_zero, List.getElem?_cons_succ] at HS5; clear hP hv hk)
                  | (go_at_call 18; (refine (RefClaimAll 0 _ a0 a1 u5 M c x.f3 _ ?_ J5.out.2.1 hu.out.1 hu.out.2 (Nat.zero_le _)).mono ?_; exact J5.out.2.2.2.1); (rintro e w8 ⟨rfl, hr, hk⟩; have J6 := Aside0.mk (Ahead.both J5.out hr hk); have HS6 := blk_cell (KB.block hk HS5'.out hslt) 3); simp only [List.getElem?_toArray, List.getElem?_cons_zero, List.getElem?_cons_succ] at HS6; clear hr hk))
                  all_goals (go_wp2_with fail; go_meet; exact ⟨g1, b1, _, _, rfl, rfl, J6⟩)
              · have e2 : (x.f0 == 2) = false := beq_eq_false_iff_ne.mpr d2
                by_cases d3 : x.f0 = 3
                · have e3 : (x.f0 == 3) = true := beq_iff_eq.mpr d3
                  clear d0 d1 d2 d3
                  as_aux_lemma =>
                    have JW := J.out.2.2.2.2.1
                    go_wp2_with (first
                      | (go_at_call 16; go_must (refine (Copy g1 b1 a0 a1 M c _ J.out.1 J.out.2.1).mono ?_); go_must (rintro e w5 ⟨g5, b5, rfl, hP, hg, hb5, hb⟩; have O := Aside0.mk (J.out.1.kb hb); have N := Aside0.mk (Both.new (W := w) hP J.out.2.1 (J.out.2.2.1.below hb) (below_step J.out.2.2.2.1 hb) (Nat.le_trans J.out.2.2.2.1.size hb5) J.out.2.2.2.2.2); have hne5 : b5 ≠ b1 := fun e => by (subst e; exact absurd J.out.1.2.1.lt (Nat.not_lt.mpr hb5))); clear hP hg hb5 hb)
                      | (go_at_call 12; go_must (refine (GiveAll g1 b1 a0 a1 ai M c _ ?_ J.out.2.1 ha.out.1 ha.out.2).mono ?_; exact O.out); go_must (rintro e w6 ⟨rfl, hP, hv, hk⟩; replace N := Aside0.mk (N.out.kbo O.out hne5 hk JW); have V6 := Aside0.mk hv; replace O := Aside0.mk hP); clear hP hv hk)
                      | (go_at_call 10; go_must (refine (ClaimAll g1 b1 a0 a1 ai _ _ _ _ ?_ V6.out ha.out.1 ha.out.2).mono ?_; exact O.out); go_must (rintro e w7 ⟨rfl, hP, hv, hk⟩; replace N := Aside0.mk (N.out.kbo O.out hne5 hk JW)); clear hP hv hk))
                    go_meet
                    exact ⟨g5, b5, _, _, rfl, rfl, N⟩
                · have e3 : (x.f0 == 3) = false := beq_eq_false_iff_ne.mpr d3
                  clear d0 d1 d2 d3
                  go_wp2_with fail
                  go_meet
                  exact ⟨g1, b1, _, _, rfl, rfl, J⟩
        case rest =>
          obtain ⟨g2, b2, M2, k2, rfl, rfl, J2⟩ := hcut
          obtain rfl : k2 = (leases a0 M2 a1.toNat).length := by rw [leases_len]; exact J2.out.2.1.cn
          have hle : ((leases a0 M2 a1.toNat).length : Int) ≤ a1 := by rw [leases_len]; have := cnt_le a0 M2 a1.toNat; omega
          have hle0 : (0 : Int) ≤ ((leases a0 M2 a1.toNat).length : Int) := by omega
          clear J HS ha hb1lt hslt HR
          as_aux_lemma =>
            go_upto_region 42 with (first
              | (go_at_call 14; go_must (refine (Owner g2 b2 a0 a1 a3 M2 _ _ J2.out.1 _l3 _u3).mono ?_); go_must (rintro e w5 ⟨rfl, hb⟩; replace J2 := Aside0.mk (J2.out.below hb)); clear hb)
              | (go_at_call 21; go_must (refine (RefOwner 0 _ a0 a1 a3 M2 _ _ J2.out.2.2.1 J2.out.2.1).mono ?_); go_must (rintro e w6 ⟨rfl, hb⟩; replace J2 := Aside0.mk (J2.out.below hb)); clear hb)
              | (go_at_call 8; go_must (refine (Least g2 b2 a0 a1 M2 _ _ J2.out.1 J2.out.2.1).mono ?_); go_must (rintro e w7 ⟨u7, is7, rfl, hL, hb⟩; have HL := Aside0.mk hL; replace J2 := Aside0.mk (J2.out.below hb)); clear hb hL)
              | (go_at_call 20; go_must (refine (RefLeast 0 _ a0 a1 M2 _ _ J2.out.2.2.1 J2.out.2.1).mono ?_); go_must (rintro e w8 ⟨u8_, is8, rfl, hL8, hb⟩; obtain ⟨rfl, rfl⟩ := LeastIs.uniq HL.out hL8; replace J2 := Aside0.mk (J2.out.below hb)); clear hb hL8))
            obtain ⟨v, h1, h2, h3⟩ := J2.out.2.2.1
            obtain ⟨adr, capr, rfl⟩ := own_slice h2
            have q2 := blk_cell h1 2
            simp only [List.getElem?_toArray, List.getElem?_cons_zero, List.getElem?_cons_succ] at q2
            have H1 := Aside0.mk h1
            have H2 := Aside0.mk h2
            have hll := Aside0.mk (show (leases a0 M2 a1.toNat).length ≤ 100000 by omega)
            clear h1 h2 h3
            have sw : IntKind.i64.wrap (a1 - ((leases a0 M2 a1.toNat).length : Int)) = a1 - ((leases a0 M2 a1.toNat).length : Int) := IntWalk.i64_in _ (by omega)
            go_region_held3 (fun w' => w'.cell? ⟨w3.heap.size, 2, none⟩ = some (.slice adr (leases a0 M2 a1.toNat).length capr)) (first | exact q2 | go_keep)
              (first
                | (go_at_call 15; (refine (Has g2 b2 a0 a1 a3 M2 _ _ ?_ J2.out.2.1 _l3 _u3).mono ?_; exact J2.out.1); (rintro e w9 ⟨rfl, hd⟩; have hb := Bl.of (drawn_below hd); replace J2 := Aside0.mk (J2.out.bl hb); replace H1 := Aside0.mk (hw_below H1.out (Bl.below hb)); replace H2 := Aside0.mk (pw_own_below H2.out (Bl.below hb)); replace q2 := blk_cell H1.out 2); simp only [List.getElem?_toArray, List.getElem?_cons_zero, List.getElem?_cons_succ] at q2; clear hb hd)
                | (go_at_call 22; (refine (RefHas 0 _ a0 a1 a3 (leases a0 M2 a1.toNat) _ ?_ b1_ b2_ n1 n2 _l3 _u3).mono ?_; exact J2.out.2.2.1); (rintro e w10 ⟨rfl, hd⟩; have hb := Bl.of (drawn_below hd); replace J2 := Aside0.mk (J2.out.bl hb); replace H1 := Aside0.mk (hw_below H1.out (Bl.below hb)); replace H2 := Aside0.mk (pw_own_below H2.out (Bl.below hb)); replace q2 := blk_cell H1.out 2); simp only [List.getElem?_toArray, List.getElem?_cons_zero, List.getElem?_cons_succ] at q2; clear hb hd)
                | (go_at_call 9; (refine (Free g2 b2 a0 a1 M2 _ _ ?_ J2.out.2.1).mono ?_; exact J2.out.1); (rintro e w11 ⟨rfl, hd⟩; have hb := Bl.of (drawn_below hd); replace J2 := Aside0.mk (J2.out.bl hb); replace H1 := Aside0.mk (hw_below H1.out (Bl.below hb)); replace H2 := Aside0.mk (pw_own_below H2.out (Bl.below hb)); replace q2 := blk_cell H1.out 2); simp only [List.getElem?_toArray, List.getElem?_cons_zero, List.getElem?_cons_succ] at q2; clear hb hd)
                | (go_at_call 11; (refine (List_ g2 b2 a0 a1 M2 _ _ ?_ J2.out.2.1).mono ?_; exact J2.out.1); (rintro e w12 ⟨ad9, cap9, rfl, hO, hb'⟩; have hb := Bl.of hb'; have HO := Aside0.mk hO; replace J2 := Aside0.mk (J2.out.bl hb); replace H1 := Aside0.mk (hw_below H1.out (Bl.below hb)); replace H2 := Aside0.mk (pw_own_below H2.out (Bl.below hb)); replace q2 := blk_cell H1.out 2); simp only [List.getElem?_toArray, List.getElem?_cons_zero, List.getElem?_cons_succ] at q2; clear hb hb' hO)
                | (go_at_call 23; (refine (Same_ _ _ _ _ (leases a0 M2 a1.toNat) _ HO.out H2.out hll.out).mono ?_); (rintro e w13 ⟨rfl, hb'⟩; have hb := Bl.of hb'; replace J2 := Aside0.mk (J2.out.bl hb); replace H1 := Aside0.mk (hw_below H1.out (Bl.below hb)); replace q2 := blk_cell H1.out 2); simp only [List.getElem?_toArray, List.getElem?_cons_zero, List.getElem?_cons_succ] at q2; clear hb hb'))
            all_goals
              go_wp2_with fail
              go_roundg (l2.length - (i + 1))
              case measure => omega
              case rel => exact ⟨i + 1, g2, b2, M2, _, by omega, rfl, by go_num, rfl, J2⟩
    · go_wp2_with (first
            | (go_at_call 7; go_must (refine (alive _).mono ?_); rintro e w3 ⟨rfl, hb⟩; have HB := Aside0.mk (below_step J.out.2.2.2.1 hb); clear hb))
      go_ret
      exact ⟨rfl, HB.out⟩
theorem May_no (a0 a1 : Int) (h0 : 0 ≤ a0) (h1 : a0 < 4294967296) (n0 : -9223372036854775808 ≤ a1) (hb : ¬ (1 ≤ a1 ∧ a1 ≤ 1024 ∧ 1 ≤ a0 ∧ a0 + a1 ≤ 4294967296)) : halyardref26_May.f a0 a1 = some false := by
  unfold halyardref26_May.f
  by_cases c1 : a1 ≥ 1
  · rw [if_pos c1]
    by_cases c2 : a1 ≤ 1024
    · rw [if_pos c2]
      by_cases c3 : a0 = 0
      · rw [if_pos c3]
      · rw [if_neg c3]
        have s1 : IntKind.u64.wrap a0 = a0 := by rw [IntKind.wrap_u64]; omega
        have s2 : IntKind.u64.wrap a1 = a1 := by rw [IntKind.wrap_u64]; omega
        have s3 : IntKind.u64.wrap (a0 + a1) = a0 + a1 := by rw [IntKind.wrap_u64]; omega
        have s4 : IntKind.u64.wrap (a0 + a1 - 1) = a0 + a1 - 1 := by rw [IntKind.wrap_u64]; omega
        simp only [s1, s2, s3, s4]
        rw [decide_eq_false (by omega)]
    · rw [if_neg c2]
  · rw [if_neg c1]
set_option maxRecDepth 100000 in
set_option maxHeartbeats 8000000 in
theorem PoolPlays_no (a0 a1 a3 : Int) (A2 : Option Addr) (c2 : Nat) (l2 : List S41) (w : World) (_l0 : 0 ≤ a0) (_u0 : a0 < 4294967296) (_l1 : -9223372036854775808 ≤ a1) (_u1 : a1 ≤ 9223372036854775807) (_l3 : 0 ≤ a3) (_u3 : a3 < 4294967296) (hr2 : Kd.C k41 w A2 l2.length l2) (hc2 : l2.length ≤ c2)
    (hn : ¬ (1 ≤ a1 ∧ a1 ≤ 1024 ∧ 1 ≤ a0 ∧ a0 + a1 ≤ 4294967296)) (hl : halyardlaw26_long.f 300 l2 = some false) :
    Calls Try.prog 5 #[.int .u32 a0, .int .i64 a1, .slice A2 l2.length c2, .int .u32 a3] w (AliveRet w) := by
  have HB := Aside0.mk (Below.refl w.heap.size w)
  have HR := Aside0.mk hr2
  have HL := Aside0.mk hl
  have HC := Aside0.mk hc2
  have HN := Aside0.mk hn
  have HM := Aside0.mk (May_no a0 a1 _l0 _u0 _l1 hn)
  clear hr2 hl hc2 hn
  go_enter Try.func5, Try.ntmps5
  go_wp2_with (first
    | (go_at_call 13; go_must (refine (halyardlaw26_long.calls 300 A2 c2 l2 false _ HR.out HC.out HL.out).mono ?_); rintro e w1 ⟨rfl, hd⟩; replace HB := Aside0.mk (below_step HB.out (drawn_below hd)); replace HR := Aside0.mk (Kd.C_below HR.out (drawn_below hd)); clear hd)
    | (go_at_call 8; refine (LeastNil  _).mono ?_; rintro e w1 ⟨rfl, hb⟩; replace HB := Aside0.mk (below_step HB.out hb); replace HR := Aside0.mk (Kd.C_below HR.out hb); clear hb) | (go_at_call 14; refine (OwnerNil _ _).mono ?_; rintro e w1 ⟨rfl, hb⟩; replace HB := Aside0.mk (below_step HB.out hb); replace HR := Aside0.mk (Kd.C_below HR.out hb); clear hb) | (go_at_call 10; refine (ClaimNil _ _ _).mono ?_; rintro e w1 ⟨rfl, hb⟩; replace HB := Aside0.mk (below_step HB.out hb); replace HR := Aside0.mk (Kd.C_below HR.out hb); clear hb) | (go_at_call 12; refine (GiveNil _ _).mono ?_; rintro e w1 ⟨rfl, hb⟩; replace HB := Aside0.mk (below_step HB.out hb); replace HR := Aside0.mk (Kd.C_below HR.out hb); clear hb) | (go_at_call 15; refine (HasNil _ _).mono ?_; rintro e w1 ⟨rfl, hb⟩; replace HB := Aside0.mk (below_step HB.out hb); replace HR := Aside0.mk (Kd.C_below HR.out hb); clear hb) | (go_at_call 9; refine (FreeNil  _).mono ?_; rintro e w1 ⟨rfl, hb⟩; replace HB := Aside0.mk (below_step HB.out hb); replace HR := Aside0.mk (Kd.C_below HR.out hb); clear hb) | (go_at_call 11; refine (ListNil  _).mono ?_; rintro e w1 ⟨rfl, hb⟩; replace HB := Aside0.mk (below_step HB.out hb); replace HR := Aside0.mk (Kd.C_below HR.out hb); clear hb) | (go_at_call 16; refine (CopyNil  _).mono ?_; rintro e w1 ⟨rfl, hb⟩; replace HB := Aside0.mk (below_step HB.out hb); replace HR := Aside0.mk (Kd.C_below HR.out hb); clear hb)
    | (go_at_call 6; go_must (refine (NewNo a0 a1 _ _l0 _u0 _l1 _u1 HN.out).mono ?_); rintro e w2 ⟨rfl, hd⟩; replace HB := Aside0.mk (below_step HB.out (drawn_below hd)); clear hd)
    | (go_at_call 17; go_must (refine (halyardref26_May.calls a0 a1 false _ HM.out).mono ?_); rintro e w3 ⟨rfl, hd⟩; replace HB := Aside0.mk (below_step HB.out (drawn_below hd)); clear hd)
    | (go_at_call 7; go_must (refine (alive _).mono ?_); rintro e w3 ⟨rfl, hb⟩; replace HB := Aside0.mk (below_step HB.out hb); clear hb))
  go_ret
  exact ⟨rfl, HB.out⟩
set_option maxRecDepth 100000 in
set_option maxHeartbeats 8000000 in
theorem PoolPlays_long (a0 a1 a3 : Int) (A2 : Option Addr) (c2 : Nat) (l2 : List S41) (w : World) (hr2 : Kd.C k41 w A2 l2.length l2) (hc2 : l2.length ≤ c2) (hl : halyardlaw26_long.f 300 l2 = some true) :
    Calls Try.prog 5 #[.int .u32 a0, .int .i64 a1, .slice A2 l2.length c2, .int .u32 a3] w (AliveRet w) := by
  have HB := Aside0.mk (Below.refl w.heap.size w)
  have HR := Aside0.mk hr2
  have HL := Aside0.mk hl
  have HC := Aside0.mk hc2
  clear hr2 hl hc2
  go_enter Try.func5, Try.ntmps5
  go_wp2_with (first
    | (go_at_call 13; go_must (refine (halyardlaw26_long.calls 300 A2 c2 l2 true _ HR.out HC.out HL.out).mono ?_); rintro e w1 ⟨rfl, hd⟩; replace HB := Aside0.mk (below_step HB.out (drawn_below hd)); clear hd)
    | (go_at_call 7; go_must (refine (alive _).mono ?_); rintro e w3 ⟨rfl, hb⟩; replace HB := Aside0.mk (below_step HB.out hb); clear hb))
  go_ret
  exact ⟨rfl, HB.out⟩
end Go.Proofs.YtjpnebhhpogebaaHPool
