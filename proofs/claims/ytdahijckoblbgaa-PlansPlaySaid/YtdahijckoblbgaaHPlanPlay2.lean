/- PlansPlay: its loop; whole. -/
import Derived.Test.YtdahijckoblbgaaHPlanPlay
import Derived.Deep.DeepCutAuto
import Derived.Deep.RegionWith
import Derived.Deep.RegionHeld3
import Derived.IntWalk
namespace Go.Proofs.YtdahijckoblbgaaHVP
open Go.RowKit Go.Maps Go.Sort Go.Shelf Go.Lib Go.Proofs.YtdahijckoblbgaaW.PrintWords Go.Proofs.YtdahijckoblbgaaHW Go.Proofs.YtdahijckoblbgaaHG Go.Proofs.Ytdahijckoblbgaa.PG27 Go.Proofs.YtdahijckoblbgaaHT
set_option linter.unusedVariables false
set_option linter.unusedSimpArgs false
/-- What Of answers. -/
def ofP (ls : List El) (s : ByteArray) : El × Bool := match get nm ls s with | some x => (x, true) | none => (z30, false)
theorem OfAll {g b : Nat} {ls : List El} {s : ByteArray} {y : El} {is : Bool} {w : World} (h : BookAt w g b ls) (hv : Valid ls) (hs : s.size ≤ 140737488351232) (hy : ofP ls s = (y, is)) :
    Calls Try.prog 14 #[.pointer (some ⟨g, 0, none⟩), .string s] w fun e w' => e = .returned (.tuple #[.agg #[.string y.f0, .int .i64 y.f1], .bool is]) ∧ Below w.heap.size w w' := by
  unfold ofP at hy
  cases hg : get nm ls s with
  | some y_ => rw [hg] at hy; cases hy; exact OfSome g b ls s w h hv hs _ hg
  | none => rw [hg] at hy; cases hy; exact OfNone g b ls s w h hv hs hg
theorem RefOfAll {r : Nat} {ls : List El} {s : ByteArray} {y : El} {is : Bool} {w : World} (h : RefB w r ls) (hv : Valid ls) (hy : ofP ls s = (y, is)) :
    Calls Try.prog 25 #[.pointer (some ⟨r, 0, none⟩), .string s] w fun e w' => e = .returned (.tuple #[.agg #[.string y.f0, .int .i64 y.f1], .bool is]) ∧ Below w.heap.size w w' := by
  unfold ofP at hy
  have hl := hv.len
  cases hg : get nm ls s with
  | some y_ => rw [hg] at hy; cases hy; exact RefOfSome r s ls _ w h hv.up (by omega) hg
  | none => rw [hg] at hy; cases hy; exact RefOfNone r s ls w h hv.up (by omega) hg
theorem RefFits_ {r : Nat} {ls : List El} {rate : Int} {s : ByteArray} {q : Int} {i : Bool} {w : World} (h : RefB w r ls) (hv : Valid ls) (hf : fits ls rate = (⟨s, q⟩, i)) :
    Calls Try.prog 26 #[.pointer (some ⟨r, 0, none⟩), .int .i64 rate] w fun e w' => e = .returned (.tuple #[.agg #[.string s, .int .i64 q], .bool i]) ∧ Below w.heap.size w w' := by
  have hl := hv.len
  refine (RefFits r ls rate w h (by omega)).mono fun e w' hp => ?_
  unfold FitsPost at hp
  rw [hf] at hp
  exact hp
theorem Both.alloc {W w : World} {r g b : Nat} {ls : List El} (h : Both W w r g b ls) (o : Obj) : Both W (w.alloc o) r g b ls := h.below ((Below.refl _ w).alloc (Nat.le_refl _) o)
theorem same_go (l : List El) (hl : l.length ≤ 100000) : ∀ (d k : Nat) (i : Int), 0 ≤ i → (l.length - i).toNat ≤ d → d < k → halyardref27_Same.l0 k l l i = some true
  | d, 0, i, _, _, h => by omega
  | d, k + 1, i, h0, h1, h2 => by
    unfold halyardref27_Same.l0
    by_cases c : i < (l.length : Int)
    · rw [if_pos c, if_pos h0, if_pos c]
      have hw : wrap64 (i + 1) = i + 1 := by unfold wrap64; omega
      rw [hw]
      simp only [beq_self_eq_true, Bool.not_true, Bool.or_self, Bool.false_eq_true, if_false]
      cases d with
      | zero => omega
      | succ d => exact same_go l hl d k (i + 1) (by omega) (by omega) (by omega)
    · rw [if_neg c]
theorem same_refl (l : List El) (hl : l.length ≤ 100000) : halyardref27_Same.f (l.length + 1) l l = some true := by
  unfold halyardref27_Same.f
  rw [if_pos rfl]
  exact same_go l hl l.length _ 0 (by omega) (by omega) (by omega)
theorem sameAll {ls : List El} {A1 A2 : Option Addr} {c1 c2 : Nat} {w : World} (h1 : Kd.C k30 w A1 ls.length ls) (hc1 : ls.length ≤ c1) (h2 : Kd.C k30 w A2 ls.length ls) (hc2 : ls.length ≤ c2) (hl : ls.length ≤ 100000) :
    Calls Try.prog 15 #[.slice A1 ls.length c1, .slice A2 ls.length c2] w fun e w' => e = .returned (.bool true) ∧ Below w.heap.size w w' :=
  (halyardref27_Same.calls _ A1 c1 ls A2 c2 ls true w h1 hc1 h2 hc2 (same_refl ls hl)).mono fun e w' ⟨he, hd⟩ => ⟨he, drawn_below hd⟩
/-- A step's box. -/
def StAt (w : World) (B : Nat) (x : St) : Prop := w.heap[B]? = some (.cells #[.int .i64 x.f0, .string x.f1.f0, .int .i64 x.f1.f1] 47 (0, 0))
theorem StAt.cells {w : World} {B : Nat} {x : St} (h : StAt w B x) : w.cell? ⟨B, 0, none⟩ = some (.int .i64 x.f0) ∧ w.cell? ⟨B, 1, none⟩ = some (.string x.f1.f0) ∧ w.cell? ⟨B, 2, none⟩ = some (.int .i64 x.f1.f1) := ⟨blk_cell h 0, blk_cell h 1, blk_cell h 2⟩
theorem StAt.below {w w1 : World} {B : Nat} {x : St} (h : StAt w B x) (hb : Below w.heap.size w w1) : StAt w1 B x := hw_below h hb
theorem StAt.kb {w w1 : World} {B b : Nat} {x : St} (h : StAt w B x) (hb : KB b w w1) (hne : B ≠ b) : StAt w1 B x := KB.block hb h hne
theorem s9 {W : World} {B1 B2 B3 B4 r : Nat} {x : El} {us : ByteArray} {uq : Int} {v : Value} (h1 : ElAt W B1 x) (h2 : ElAt W B2 x) (h3 : ElAt W B3 ⟨us, uq⟩) (h4 : ElAt W B4 ⟨us, uq⟩) (h5 : W.cell? ⟨r, 0, none⟩ = some v) : W.cell? ⟨B1, 0, none⟩ = some (.string x.f0) ∧ W.cell? ⟨B1, 1, none⟩ = some (.int .i64 x.f1) ∧ W.cell? ⟨B2, 0, none⟩ = some (.string x.f0) ∧ W.cell? ⟨B2, 1, none⟩ = some (.int .i64 x.f1) ∧ W.cell? ⟨B3, 0, none⟩ = some (.string us) ∧ W.cell? ⟨B3, 1, none⟩ = some (.int .i64 uq) ∧ W.cell? ⟨B4, 0, none⟩ = some (.string us) ∧ W.cell? ⟨B4, 1, none⟩ = some (.int .i64 uq) ∧ W.cell? ⟨r, 0, none⟩ = some v := ⟨h1.cell 0, h1.cell 1, h2.cell 0, h2.cell 1, h3.cell 0, h3.cell 1, h4.cell 0, h4.cell 1, h5⟩
/-- What was there stands, in a form that no draw turns. -/
def Bl (w w' : World) : Prop := w'.os = w.os ∧ w'.tape = w.tape ∧ w'.output = w.output ∧ w.heap.size ≤ w'.heap.size ∧ ∀ j, j < w.heap.size → w'.heap[j]? = w.heap[j]?
theorem Bl.of {w w' : World} (h : Below w.heap.size w w') : Bl w w' := ⟨h.os, h.tape, h.output, h.size, h.block⟩
theorem Bl.below {w w' : World} (h : Bl w w') : Below w.heap.size w w' := ⟨h.1, h.2.1, h.2.2.1, h.2.2.2.1, h.2.2.2.2⟩
theorem Both.bl {W w w' : World} {r g b : Nat} {ls : List El} (h : Both W w r g b ls) (hb : Bl w w') : Both W w' r g b ls := h.below hb.below
theorem StAt.bl {w w1 : World} {B : Nat} {x : St} (h : StAt w B x) (hb : Bl w w1) : StAt w1 B x := h.below hb.below
theorem C_bl {w w' : World} {A : Option Addr} {n : Nat} {xs : List El} (h : Kd.C k30 w A n xs) (hb : Bl w w') : Kd.C k30 w' A n xs := Kd.C_below h hb.below
theorem elAt_bl {w w' : World} {B : Nat} {x : El} (h : ElAt w B x) (hb : Bl w w') : ElAt w' B x := elAt_below h hb.below
theorem cell_bl {w w' : World} {p : Addr} {v : Value} (h : w.cell? p = some v) (hb : Bl w w') : w'.cell? p = some v := (hb.below.cell (World.block_lt_of_cell? _ _ h)).trans h
def spoilt : El := ⟨⟨#[115, 112, 111, 105, 108, 116]⟩, 1⟩
set_option maxRecDepth 100000 in
set_option maxHeartbeats 4000000 in
theorem PlansPlay_ok (A0 A1 : Option Addr) (c0 c1 : Nat) (l : List El) (ll : List St) (a2 : ByteArray) (a3 : Int) (w : World) (hr : Kd.C k30 w A0 l.length l) (hc : l.length ≤ c0) (hs : Kd.C k47 w A1 ll.length ll) (hc1 : ll.length ≤ c1) (hn : (∀ x ∈ l, x.f0.size ≤ 140737488351232) ∧ (∀ x ∈ ll, x.f1.f0.size ≤ 140737488351232) ∧ a2.size ≤ 140737488351232) (hl : halyardlaw27_long.f 300 l = some false) (n100 : ll.length ≤ 100) (ms : List El) (hof : halyardlaw27_of.f 300 ll = some ms) (hl2 : halyardlaw27_long.f 300 ms = some false) (hz : a2.size ≤ 1024) (h100 : l.length ≤ 100) (ls : List El) (hna : newAll l = (0, ls)) :
    Calls Try.prog 5 #[.slice A0 l.length c0, .slice A1 ll.length c1, .string a2, .int .i64 a3] w (AliveRet w) := by
  have HR := Aside0.mk hr
  have HS := Aside0.mk hs
  have HR0 := Aside0.mk hr
  have HS0 := Aside0.mk hs
  have HC := Aside0.mk hc
  have HC1 := Aside0.mk hc1
  have HN := Aside0.mk hn
  have HB := Aside0.mk (Below.refl w.heap.size w)
  have huE := Try.underlying30
  have tok1 : True := trivial
  have HL := Aside0.mk hl
  have m100 : ¬ (100 : Int) < (ll.length : Int) := by omega
  have HOF := Aside0.mk hof
  have HL2 := Aside0.mk hl2
  have z1 : ¬ (1024 : Int) < (a2.size : Int) := by omega
  have HNA := Aside0.mk hna
  have HV := Aside0.mk (show Valid ls from by have := new_valid l (0, []) Valid.nil; rw [show l.foldl new1 (0, []) = (0, ls) from hna] at this; exact this)
  clear hr hs hc hc1 hn hl hl2 hof hna
  go_enter Try.func5, Try.ntmps5
  go_wp2_with (first
    | (go_at_call 9; have t_ := tok1; go_must (refine (halyardlaw27_long.calls 300 A0 c0 l false _ HR.out HC.out HL.out).mono ?_); go_must (rintro e w1 ⟨rfl, hd⟩; replace HB := Aside0.mk (below_step HB.out (drawn_below hd)); replace HR := Aside0.mk (Kd.C_below HR.out (drawn_below hd)); replace HS := Aside0.mk (Kd.C_below HS.out (drawn_below hd))); clear hd tok1)
    | (go_at_call 16; go_must (refine (halyardlaw27_of.calls 300 A1 c1 ll ms _ HS.out HC1.out HOF.out).mono ?_); go_must (rintro e w2 ⟨v_, rfl, hr_, hb_⟩; obtain ⟨A2, c2, rfl, hc2_, hC2_⟩ := Kd.R_reads hr_; have HR2 := Aside0.mk hC2_; have HC2 := Aside0.mk hc2_; replace HB := Aside0.mk (below_step HB.out hb_); replace HR := Aside0.mk (Kd.C_below HR.out hb_); replace HS := Aside0.mk (Kd.C_below HS.out hb_)); clear hr_ hb_ hC2_ hc2_)
    | (go_at_call 9; go_must (refine (halyardlaw27_long.calls 300 A2 c2 ms false _ HR2.out HC2.out HL2.out).mono ?_); go_must (rintro e w3 ⟨rfl, hd⟩; replace HB := Aside0.mk (below_step HB.out (drawn_below hd)); replace HR := Aside0.mk (Kd.C_below HR.out (drawn_below hd)); replace HS := Aside0.mk (Kd.C_below HS.out (drawn_below hd))); clear hd)
    | (go_at_call 14; refine (OfNil _ _).mono ?_; rintro e w5 ⟨rfl, hb⟩; have HB_ := Aside0.mk (below_step (by repeat (first | (with_reducible first | exact HB.out | apply below_alloc | apply pw_below_drewN | apply below_drew1 | apply below_drew) | (refine Below.setCell ?_ (by first | (simp; done) | (simp; omega)) _))) hb); replace HB := HB_; clear HB_ hb; have zz := HB.out.size)
    | (go_at_call 12; refine (FitsNil _ _).mono ?_; rintro e w6 ⟨rfl, hb⟩; have HB_ := Aside0.mk (below_step (by repeat (first | (with_reducible first | exact HB.out | apply below_alloc | apply pw_below_drewN | apply below_drew1 | apply below_drew) | (refine Below.setCell ?_ (by first | (simp; done) | (simp; omega)) _))) hb); replace HB := HB_; clear HB_ hb; have zz := HB.out.size)
    | (go_at_call 17; refine (AddNil z30 _).mono ?_; rintro e w7 ⟨rfl, hb⟩; have HB_ := Aside0.mk (below_step (by repeat (first | (with_reducible first | exact HB.out | apply below_alloc | apply pw_below_drewN | apply below_drew1 | apply below_drew) | (refine Below.setCell ?_ (by first | (simp; done) | (simp; omega)) _))) hb); replace HB := HB_; clear HB_ hb; have zz := HB.out.size)
    | (go_at_call 18; refine (DelNil _ _).mono ?_; rintro e w8 ⟨rfl, hb⟩; have HB_ := Aside0.mk (below_step (by repeat (first | (with_reducible first | exact HB.out | apply below_alloc | apply pw_below_drewN | apply below_drew1 | apply below_drew) | (refine Below.setCell ?_ (by first | (simp; done) | (simp; omega)) _))) hb); replace HB := HB_; clear HB_ hb; have zz := HB.out.size)
    | (go_at_call 13; refine (ListNil  _).mono ?_; rintro e w9 ⟨rfl, hb⟩; have HB_ := Aside0.mk (below_step (by repeat (first | (with_reducible first | exact HB.out | apply below_alloc | apply pw_below_drewN | apply below_drew1 | apply below_drew) | (refine Below.setCell ?_ (by first | (simp; done) | (simp; omega)) _))) hb); replace HB := HB_; clear HB_ hb; have zz := HB.out.size)
    | (go_at_call 19; refine (CopyNil  _).mono ?_; rintro e w10 ⟨rfl, hb⟩; have HB_ := Aside0.mk (below_step (by repeat (first | (with_reducible first | exact HB.out | apply below_alloc | apply pw_below_drewN | apply below_drew1 | apply below_drew) | (refine Below.setCell ?_ (by first | (simp; done) | (simp; omega)) _))) hb); replace HB := HB_; clear HB_ hb; have zz := HB.out.size)
    | (at_builtin; refine wp_appendC _ rfl _ _ 22 rfl 0 30 (.agg #[.string ⟨#[]⟩, .int .i64 0]) 24 Try.underlying22 infoEl rfl (.slice none 0 0) 0 [] rfl (own_nil _ _ _ _) (.slice A0 l.length c0) l.length (l.flatMap cel) rfl (src_C (Kd.C_below HR0.out (by repeat (first | (with_reducible first | exact HB.out | apply below_alloc | apply pw_below_drewN | apply below_drew1 | apply below_drew) | (refine Below.setCell ?_ (by first | (simp; done) | (simp; omega)) _)))) c0) (cells_one _) (by unfold maxLen; omega) (by omega) (Nat.zero_le _) ?_; intro v1 w11 own1 gr1; go_must (rw [Nat.zero_add, List.nil_append] at own1; have HB_ := Aside0.mk (Below.grown (by repeat (first | (with_reducible first | exact HB.out | apply below_alloc | apply pw_below_drewN | apply below_drew1 | apply below_drew) | (refine Below.setCell ?_ (by first | (simp; done) | (simp; omega)) _))) gr1 (by have := HB.out.size; simp at *; omega) (fun j hj => by simp [Value.ownBlock] at hj)); replace HB := HB_; obtain ⟨A5, c5, rfl, hc5, hC5, _⟩ := C_of_own own1; have HR5 := Aside0.mk hC5; have HC5 := Aside0.mk hc5; clear HB_ own1 gr1 hC5 hc5; have zz := HB.out.size))
    | (go_at_call 11; go_must (refine (New_ok HNA.out HR5.out HC5.out HN.out.1).mono ?_); go_must (rintro e w12 ⟨g, b, rfl, hP, hg0, hb0, hbl⟩; have PK := Aside0.mk hP; have hb1 := Nat.le_trans HB.out.size hb0; replace HB := Aside0.mk (below_step HB.out hbl)); clear hP hg0 hb0 hbl)
    | (go_at_call 20; go_must (refine (RefNew_ok HNA.out (Kd.C_below HR0.out HB.out) HC.out).mono ?_); go_must (rintro e w13 ⟨r, rfl, hr_, hr0, hbl⟩; have J0 := Aside0.mk (Both.new (W := w) (PK.out.kb hbl) HV.out hr_ (below_step HB.out hbl) hb1 (Nat.le_trans HB.out.size hr0))); clear hr_ hr0 hbl))
  go_loopg [14, 18] ll.length (fun gk v14 v18 wr => ∃ (i g1 b1 : Nat) (ls : List El), i ≤ ll.length ∧ gk = ll.length - i ∧ v18 = .int .i64 (i : Int) ∧ v14 = .pointer (some ⟨g1, 0, none⟩) ∧ Aside0 (Both w wr r g1 b1 ls))
  case atStart => exact ⟨0, g, b, ls, by omega, by omega, rfl, rfl, J0⟩
  case round =>
    clear J0 HB HR HS HR5 HC5 HR2 HC2 PK HV HNA HL2 HOF HL hb1
    obtain ⟨i, g1, b1, l1, hi, rfl, rfl, rfl, J⟩ := hrel
    have HSr := Aside0.mk (Kd.C_below HS0.out J.out.2.2.2.1)
    by_cases hlt : i < ll.length
    · obtain ⟨x, hx⟩ : ∃ x, x = rd_T47 ll i := ⟨_, rfl⟩
      obtain ⟨ad, rfl, q0, q1, q2⟩ := at_T47 HSr.out (i : Int) (by omega) (by omega)
      rw [← hx, Int.toNat_natCast] at q0 q1 q2
      have hxm : x ∈ ll := by
        rw [hx]; unfold rd_T47
        rw [Int.toNat_natCast, List.getD_eq_getElem?_getD, List.getElem?_eq_getElem hlt]
        exact List.getElem_mem _
      have xs := HN.out.2.1 x hxm
      have ns := HN.out.2.2
      clear hx hxm
      go_upto_region 18 with fail
      have hb1lt : wr.heap.size ≠ b1 := Nat.ne_of_gt (J.out.1.2.1.lt)
      have hrlt : wr.heap.size ≠ r := by obtain ⟨v_, h_, _⟩ := J.out.2.2.1; exact Nat.ne_of_gt (blk_lt h_)
      replace J := Aside0.mk (J.out.alloc (Obj.cells #[Value.int IntKind.i64 x.f0, Value.string x.f1.f0, Value.int IntKind.i64 x.f1.f1] 47))
      have HX := Aside0.mk (show StAt (wr.alloc (Obj.cells #[Value.int IntKind.i64 x.f0, Value.string x.f1.f0, Value.int IntKind.i64 x.f1.f1] 47)) wr.heap.size x from heap_alloc_new wr _)
      obtain ⟨cc, hcc⟩ : ∃ cc : Int, (if okB x.f1 = true then (0 : Int) else 2) = cc := ⟨_, rfl⟩
      have HK1 := Aside0.mk (check_ok x.f1)
      have HK2 := Aside0.mk (refCheck_ok x.f1)
      rw [hcc] at HK1 HK2
      have hS := HX.out.cells
      clear q0 q1 q2 hcc HSr
      go_cut [20] (fun v20 wx => v20 = .bool true ∧ Aside0 (Both w wx r g1 b1 l1) ∧ Aside0 (StAt wx wr.heap.size x))
      case first =>
        as_aux_lemma =>
          go_region_held3 (fun w' => w'.cell? ⟨wr.heap.size, 0, none⟩ = some (.int .i64 x.f0) ∧ w'.cell? ⟨wr.heap.size, 1, none⟩ = some (.string x.f1.f0) ∧ w'.cell? ⟨wr.heap.size, 2, none⟩ = some (.int .i64 x.f1.f1)) (first | (with_reducible exact hS2) | (with_reducible exact hS1) | (with_reducible exact hS) | go_keep)
            (first
              | (go_at_call 21; (refine (plans_Check.calls _ _ cc _ HK1.out).mono ?_); (rintro e w14 ⟨rfl, hb'⟩; have hb := Bl.of hb'; replace J := Aside0.mk (J.out.bl hb); replace HX := Aside0.mk (HX.out.bl hb); have hS1 := HX.out.cells); clear hb hb')
              | (go_at_call 22; (refine (halyardref27_Check.calls _ _ cc _ HK2.out).mono ?_); (rintro e w15 ⟨rfl, hb'⟩; have hb := Bl.of hb'; replace J := Aside0.mk (J.out.bl hb); replace HX := Aside0.mk (HX.out.bl hb); have hS2 := HX.out.cells); clear hb hb'))
          all_goals
            go_wp2_with fail
            go_meet
            exact ⟨rfl, J, HX⟩
      case rest =>
        obtain ⟨rfl, J', HX'⟩ := hcut
        clear J HX hS HK1 HK2
        have J := J'
        have HX := HX'
        have hS := HX.out.cells
        clear J' HX'
        go_upto_block 2 with fail
        go_cut [14, 20] (fun v14 v20 wx => ∃ (g2 b2 : Nat) (l2 : List El), v14 = .pointer (some ⟨g2, 0, none⟩) ∧ v20 = .bool true ∧ Aside0 (Both w wx r g2 b2 l2))
        case first =>
          obtain ⟨hS0, hS1, hS2⟩ := hS
          by_cases d0 : x.f0 = 0
          · have e0 : (x.f0 == 0) = true := beq_iff_eq.mpr d0
            clear d0
            as_aux_lemma =>
              go_upto_region 21 with fail
              have hSS := HX.out.cells
              go_region_held3 (fun w' => w'.cell? ⟨wr.heap.size, 0, none⟩ = some (.int .i64 x.f0) ∧ w'.cell? ⟨wr.heap.size, 1, none⟩ = some (.string x.f1.f0) ∧ w'.cell? ⟨wr.heap.size, 2, none⟩ = some (.int .i64 x.f1.f1)) (first | (with_reducible exact hS6) | (with_reducible exact hS5) | (with_reducible exact hSS) | go_keep)
                (first
                  | (go_at_call 17; (refine (AddAll g1 b1 l1 x.f1 _ ?_ J.out.2.1 xs).mono ?_; exact J.out.1); (rintro e w5 ⟨rfl, hP, hk⟩; have J5 := Aside0.mk (Both.ahead J.out hP (J.out.2.1.add x.f1) hk); have HX5 := Aside0.mk (StAt.kb HX.out hk hb1lt); have hS5 := HX5.out.cells); clear hP hk)
                  | (go_at_call 23; (refine (RefAddAll r l1 x.f1 _ ?_ J5.out.2.1).mono ?_; exact J5.out.2.2.2.1); (rintro e w6 ⟨rfl, hr, hk⟩; have J6 := Aside0.mk (Ahead.both J5.out hr hk); have HX6 := Aside0.mk (StAt.kb HX5.out hk hrlt); have hS6 := HX6.out.cells); clear hr hk))
              all_goals (go_wp2_with fail; go_meet; exact ⟨g1, b1, _, rfl, rfl, J6⟩)
          · have e0 : (x.f0 == 0) = false := beq_eq_false_iff_ne.mpr d0
            by_cases d1 : x.f0 = 1
            · have e1 : (x.f0 == 1) = true := beq_iff_eq.mpr d1
              clear d0 d1
              as_aux_lemma =>
                go_upto_region 23 with fail
                have hSS := HX.out.cells
                go_region_held3 (fun w' => w'.cell? ⟨wr.heap.size, 0, none⟩ = some (.int .i64 x.f0) ∧ w'.cell? ⟨wr.heap.size, 1, none⟩ = some (.string x.f1.f0) ∧ w'.cell? ⟨wr.heap.size, 2, none⟩ = some (.int .i64 x.f1.f1)) (first | (with_reducible exact hS6) | (with_reducible exact hS5) | (with_reducible exact hSS) | go_keep)
                  (first
                    | (go_at_call 18; (refine (DelAll g1 b1 l1 x.f1.f0 _ ?_ J.out.2.1 xs).mono ?_; exact J.out.1); (rintro e w5 ⟨rfl, hP, hk⟩; have J5 := Aside0.mk (Both.ahead J.out hP (J.out.2.1.del x.f1.f0) hk); have HX5 := Aside0.mk (StAt.kb HX.out hk hb1lt); have hS5 := HX5.out.cells); clear hP hk)
                    | (go_at_call 24; (refine (RefDelAll r l1 x.f1.f0 _ ?_ J5.out.2.1).mono ?_; exact J5.out.2.2.2.1); (rintro e w6 ⟨rfl, hr, hk⟩; have J6 := Aside0.mk (Ahead.both J5.out hr hk); have HX6 := Aside0.mk (StAt.kb HX5.out hk hrlt); have hS6 := HX6.out.cells); clear hr hk))
                all_goals (go_wp2_with fail; go_meet; exact ⟨g1, b1, _, rfl, rfl, J6⟩)
            · have e1 : (x.f0 == 1) = false := beq_eq_false_iff_ne.mpr d1
              by_cases d2 : x.f0 = 2
              · have e2 : (x.f0 == 2) = true := beq_iff_eq.mpr d2
                clear d0 d1 d2
                as_aux_lemma =>
                  have JW := J.out.2.2.2.2.1
                  go_wp2_with (first
                    | (go_at_call 19; go_must (refine (Copy g1 b1 l1 _ J.out.1).mono ?_); go_must (rintro e w5 ⟨g5, b5, rfl, hP, hg, hb5, hb⟩; have O := Aside0.mk (J.out.1.kb hb); have Nw := Aside0.mk (Both.new (W := w) hP J.out.2.1 (J.out.2.2.1.below hb) (below_step J.out.2.2.2.1 hb) (Nat.le_trans J.out.2.2.2.1.size hb5) J.out.2.2.2.2.2); have HX5 := Aside0.mk (HX.out.below hb); have hS5 := HX5.out.cells.2.1; have hne5 : b5 ≠ b1 := fun e => by (subst e; exact absurd J.out.1.2.1.lt (Nat.not_lt.mpr hb5))); clear hP hg hb5 hb)
                    | (go_at_call 18; go_must (refine (DelAll g1 b1 l1 x.f1.f0 _ ?_ J.out.2.1 xs).mono ?_; exact O.out); go_must (rintro e w6 ⟨rfl, hP, hk⟩; replace Nw := Aside0.mk (Nw.out.kbo O.out hne5 hk JW); replace O := Aside0.mk hP); clear hP hk)
                    | (go_at_call 17; go_must (refine (AddAll g1 b1 (del nm l1 x.f1.f0) spoilt _ ?_ (J.out.2.1.del x.f1.f0) (by decide)).mono ?_; exact O.out); go_must (rintro e w7 ⟨rfl, hP, hk⟩; replace Nw := Aside0.mk (Nw.out.kbo O.out hne5 hk JW)); clear hP hk))
                  go_meet
                  exact ⟨g5, b5, _, rfl, rfl, Nw⟩
              · have e2 : (x.f0 == 2) = false := beq_eq_false_iff_ne.mpr d2
                clear d0 d1 d2
                go_wp2_with fail
                go_meet
                exact ⟨g1, b1, _, rfl, rfl, J⟩
        case rest =>
          obtain ⟨g2, b2, l2, rfl, rfl, J2⟩ := hcut
          clear J HX hb1lt hrlt hS
          obtain ⟨⟨y, is⟩, hy⟩ : ∃ p, ofP l2 a2 = p := ⟨_, rfl⟩
          obtain ⟨⟨⟨us, uq⟩, ui⟩, hu⟩ : ∃ p, fits l2 a3 = p := ⟨_, rfl⟩
          have HY := Aside0.mk hy
          have HU := Aside0.mk hu
          clear hy hu
          as_aux_lemma =>
            go_upto_region 37 with (first
              | (go_at_call 14; go_must (refine (OfAll J2.out.1 J2.out.2.1 ns HY.out).mono ?_); go_must (rintro e w5 ⟨rfl, hb⟩; replace J2 := Aside0.mk (J2.out.below hb)); clear hb)
              | (go_at_call 25; go_must (refine (RefOfAll (J2.out.alloc _).2.2.1 J2.out.2.1 HY.out).mono ?_); go_must (rintro e w6 ⟨rfl, hb⟩; have B1 := Aside0.mk (elAt_call (elAt_new w5 y) hb); replace J2 := Aside0.mk ((J2.out.alloc _).below hb)); clear hb)
              | (go_at_call 12; go_must (refine (Fits_ us uq ui (J2.out.alloc _).1 J2.out.2.1 HU.out).mono ?_); go_must (rintro e w7 ⟨rfl, hb⟩; have B1_ := Aside0.mk (elAt_call (B1.out.alloc _) hb); have B2 := Aside0.mk (elAt_call (elAt_new w6 y) hb); replace B1 := B1_; clear B1_; replace J2 := Aside0.mk ((J2.out.alloc _).below hb)); clear hb)
              | (go_at_call 26; go_must (refine (RefFits_ (J2.out.alloc _).2.2.1 J2.out.2.1 HU.out).mono ?_); go_must (rintro e w8 ⟨rfl, hb⟩; have B1_ := Aside0.mk (elAt_call (B1.out.alloc _) hb); have B2_ := Aside0.mk (elAt_call (B2.out.alloc _) hb); have B3 := Aside0.mk (elAt_call (elAt_new w7 (⟨us, uq⟩ : El)) hb); replace B1 := B1_; replace B2 := B2_; clear B1_ B2_; replace J2 := Aside0.mk ((J2.out.alloc _).below hb)); clear hb))
            replace J2 := Aside0.mk (J2.out.alloc (Obj.cells #[Value.string us, Value.int IntKind.i64 uq] 30))
            have B4 := Aside0.mk (show ElAt (w8.alloc (Obj.cells #[Value.string us, Value.int IntKind.i64 uq] 30)) w8.heap.size (⟨us, uq⟩ : El) from elAt_new w8 (⟨us, uq⟩ : El))
            replace B1 := Aside0.mk (B1.out.alloc (Obj.cells #[Value.string us, Value.int IntKind.i64 uq] 30))
            replace B2 := Aside0.mk (B2.out.alloc (Obj.cells #[Value.string us, Value.int IntKind.i64 uq] 30))
            replace B3 := Aside0.mk (B3.out.alloc (Obj.cells #[Value.string us, Value.int IntKind.i64 uq] 30))
            obtain ⟨Ar, cr, kr, hcr, hCr⟩ := J2.out.2.2.1.parts
            have HCR := Aside0.mk hCr
            have HPR := Aside0.mk hcr
            have hl2 := J2.out.2.1.len
            have HL2 := Aside0.mk hl2
            have hS := s9 B1.out B2.out B3.out B4.out kr
            clear hCr hcr hl2
            go_region_held3 (fun w' => w'.cell? ⟨w5.heap.size, 0, none⟩ = some (.string y.f0) ∧ w'.cell? ⟨w5.heap.size, 1, none⟩ = some (.int .i64 y.f1) ∧ w'.cell? ⟨w6.heap.size, 0, none⟩ = some (.string y.f0) ∧ w'.cell? ⟨w6.heap.size, 1, none⟩ = some (.int .i64 y.f1) ∧ w'.cell? ⟨w7.heap.size, 0, none⟩ = some (.string us) ∧ w'.cell? ⟨w7.heap.size, 1, none⟩ = some (.int .i64 uq) ∧ w'.cell? ⟨w8.heap.size, 0, none⟩ = some (.string us) ∧ w'.cell? ⟨w8.heap.size, 1, none⟩ = some (.int .i64 uq) ∧ w'.cell? ⟨r, 0, none⟩ = some (.slice Ar l2.length cr)) (first | (with_reducible exact hS10) | (with_reducible exact hS9) | (with_reducible exact hS) | go_keep)
              (first
                | (go_at_call 13; (refine (List_ g2 b2 l2 _ ?_ J2.out.2.1).mono ?_; exact J2.out.1); (rintro e w9 ⟨v, rfl, hrow, hb'⟩; obtain ⟨ar1, cap1, rfl, hcap1, hC1, hblk1⟩ := C_of_own hrow; have hb := Bl.of hb'; have HC1 := Aside0.mk hC1; have HP1 := Aside0.mk hcap1; replace HCR := Aside0.mk (C_bl HCR.out hb); replace J2 := Aside0.mk (J2.out.bl hb); replace B1 := Aside0.mk (elAt_bl B1.out hb); replace B2 := Aside0.mk (elAt_bl B2.out hb); replace B3 := Aside0.mk (elAt_bl B3.out hb); replace B4 := Aside0.mk (elAt_bl B4.out hb); have kr9 := cell_bl hS.2.2.2.2.2.2.2.2 hb; have hS9 := s9 B1.out B2.out B3.out B4.out kr9); clear hb hb' hrow hC1 hblk1 hcap1)
                | (go_at_call 15; (refine (sameAll HC1.out HP1.out HCR.out HPR.out (by have := HL2.out; omega)).mono ?_); (rintro e w10 ⟨rfl, hb'⟩; have hb := Bl.of hb'; replace J2 := Aside0.mk (J2.out.bl hb); replace B1 := Aside0.mk (elAt_bl B1.out hb); replace B2 := Aside0.mk (elAt_bl B2.out hb); replace B3 := Aside0.mk (elAt_bl B3.out hb); replace B4 := Aside0.mk (elAt_bl B4.out hb); have kr10 := cell_bl kr9 hb; have hS10 := s9 B1.out B2.out B3.out B4.out kr10); clear hb hb'))
            all_goals
              go_wp2_with fail
              go_roundg (ll.length - (i + 1))
              case measure => omega
              case rel => exact ⟨i + 1, g2, b2, _, by omega, rfl, by go_num, rfl, J2⟩
    · go_wp2_with (first
        | (go_at_call 10; go_must (refine (alive _).mono ?_); rintro e w3 ⟨rfl, hb⟩; have HB := Aside0.mk (below_step J.out.2.2.2.1 hb); clear hb))
      go_ret
      exact ⟨rfl, HB.out⟩

theorem PlansPlay_run (A0 A1 : Option Addr) (c0 c1 : Nat) (l : List El) (ll : List St) (a2 : ByteArray) (a3 : Int) (w : World) (hr : Kd.C k30 w A0 l.length l) (hc : l.length ≤ c0) (hs : Kd.C k47 w A1 ll.length ll) (hc1 : ll.length ≤ c1) (hn : (∀ x ∈ l, x.f0.size ≤ 140737488351232) ∧ (∀ x ∈ ll, x.f1.f0.size ≤ 140737488351232) ∧ a2.size ≤ 140737488351232) :
    Calls Try.prog 5 #[.slice A0 l.length c0, .slice A1 ll.length c1, .string a2, .int .i64 a3] w (AliveRet w) := by
  obtain ⟨b, hb, h100⟩ := long_val l
  cases b with
  | true => exact PlansPlay_long A0 A1 c0 c1 l ll a2 a3 w hr hc hs hc1 hn hb
  | false =>
    by_cases n100 : ll.length ≤ 100
    · obtain ⟨b2, hb2, _⟩ := long_val (ll.map (·.f1))
      have hof := of_val ll n100
      cases b2 with
      | true => exact PlansPlay_long2 A0 A1 c0 c1 l ll a2 a3 w hr hc hs hc1 hn hb n100 _ hof hb2
      | false =>
        by_cases hz : a2.size ≤ 1024
        · obtain ⟨⟨c, ls⟩, hna⟩ : ∃ p, newAll l = p := ⟨_, rfl⟩
          by_cases h0 : c = 0
          · subst h0; exact PlansPlay_ok A0 A1 c0 c1 l ll a2 a3 w hr hc hs hc1 hn hb n100 _ hof hb2 hz (h100 rfl) ls hna
          · exact PlansPlay_err A0 A1 c0 c1 l ll a2 a3 w hr hc hs hc1 hn hb n100 _ hof hb2 hz (h100 rfl) c ls hna h0
        · exact PlansPlay_name A0 A1 c0 c1 l ll a2 a3 w hr hc hs hc1 hn hb n100 _ hof hb2 (by omega)
    · exact PlansPlay_many A0 A1 c0 c1 l ll a2 a3 w hr hc hs hc1 hn hb (by omega)
end Go.Proofs.YtdahijckoblbgaaHVP
