/- PlansFit: what fits is enough, and no other plan that is enough has less. -/
import Derived.Test.YtdahijckoblbgaaHPlan5
import Derived.Test.YtdahijckoblbgaaPG27x2
import Derived.WalkLawsBesides
namespace Go.Proofs.YtdahijckoblbgaaHVP
open Go.RowKit Go.Maps Go.Sort Go.Shelf Go.Lib Go.Proofs.YtdahijckoblbgaaW.PrintWords Go.Proofs.YtdahijckoblbgaaHW Go.Proofs.YtdahijckoblbgaaHG Go.Proofs.Ytdahijckoblbgaa.PG27 Go.Proofs.YtdahijckoblbgaaHT
set_option linter.unusedVariables false
set_option linter.unusedSimpArgs false
/-- What fits, said of the row. -/
structure FitIs (ls : List El) (rate : Int) (x : El) (is : Bool) : Prop where
  yes : is = true → x ∈ ls ∧ rate ≤ x.f1
  no : is = false → x = z30 ∧ ∀ p ∈ ls, p.f1 < rate
  least : ∀ p ∈ ls, rate ≤ p.f1 → is = true ∧ x.f1 ≤ p.f1 ∧ (p.f1 = x.f1 → Go.Proofs.YtdahijckoblbgaaHT.lt p.f0 x.f0 = false)
theorem snoc_ind {α : Type} {P : List α → Prop} (h0 : P []) (h1 : ∀ l x, P l → P (l ++ [x])) (l : List α) : P l := by
  have : ∀ l : List α, P l.reverse := by
    intro l
    induction l with
    | nil => exact h0
    | cons a l ih => rw [List.reverse_cons]; exact h1 _ _ ih
  have z := this l.reverse
  rwa [List.reverse_reverse] at z
theorem fits_app (rate : Int) (l : List El) (p : El) : fits (l ++ [p]) rate = fit1 rate (fits l rate) p := by
  unfold fits; rw [List.foldl_append]; rfl
theorem fits_is (rate : Int) (ls : List El) : Up nm ls → FitIs ls rate (fits ls rate).1 (fits ls rate).2 := by
  refine snoc_ind (P := fun ls => Up nm ls → FitIs ls rate (fits ls rate).1 (fits ls rate).2) ?_ ?_ ls
  · intro _
    exact ⟨fun h => by simp [fits] at h, fun _ => ⟨rfl, fun p hp => by simp at hp⟩, fun p hp => by simp at hp⟩
  · intro l p ih hu
    obtain ⟨u1, _, u3⟩ := List.pairwise_append.mp hu
    have hl := ih u1
    rw [fits_app]
    clear ih
    generalize fits l rate = acc at hl ⊢
    obtain ⟨x, is⟩ := acc
    dsimp only at hl
    unfold fit1
    split
    · rename_i h
      refine ⟨fun _ => ⟨by simp, h.1⟩, fun h => by simp at h, fun q hq hr => ⟨rfl, ?_⟩⟩
      rcases List.mem_append.mp hq with hq | hq
      · have z := hl.least q hq hr
        rcases h.2 with h2 | h2
        · have := z.1; rw [show is = false from h2] at this; exact absurd this (by simp)
        · have z2 := z.2.1
          have h2' : p.f1 < x.f1 := h2
          have z3 : x.f1 ≤ q.f1 := z2
          exact ⟨by show p.f1 ≤ q.f1; omega, fun e => by have e' : q.f1 = p.f1 := e; omega⟩
      · simp at hq; subst hq
        exact ⟨Int.le_refl _, fun _ => lt_irrefl _⟩
    · rename_i h
      refine ⟨fun hi => ?_, fun hi => ?_, fun q hq hr => ?_⟩
      · have := hl.yes hi; exact ⟨List.mem_append_left _ this.1, this.2⟩
      · have := hl.no hi
        refine ⟨this.1, fun q hq => ?_⟩
        rcases List.mem_append.mp hq with hq | hq
        · exact this.2 q hq
        · simp at hq; subst hq
          rcases Int.lt_or_le q.f1 rate with h3 | h3
          · exact h3
          · exact absurd ⟨h3, Or.inl hi⟩ h
      · rcases List.mem_append.mp hq with hq | hq
        · exact hl.least q hq hr
        · simp at hq; subst hq
          have h2 : ¬ (is = false ∨ q.f1 < x.f1) := fun h4 => h ⟨hr, h4⟩
          have h3 : is = true := by cases is with | true => rfl | false => exact absurd (Or.inl rfl) h2
          have h4 : x.f1 ≤ q.f1 := by
            rcases Int.lt_or_le q.f1 x.f1 with h5 | h5
            · exact absurd (Or.inr h5) h2
            · exact h5
          refine ⟨h3, h4, fun e => ?_⟩
          have hx := (hl.yes h3).1
          exact lt_asymm (u3 x hx q (by simp))
theorem long_go (l : List S30) : ∀ (d k : Nat) (s i : Int), 0 ≤ i → i ≤ 200 → (200 - i).toNat ≤ d → d < k → ∃ b, halyardlaw27_long.l0 k l s i = some b ∧ (b = false → l.length ≤ 100) := by
  intro d
  induction d with
  | zero =>
    intro k s i h0 h1 hd hk
    obtain ⟨k, rfl⟩ : ∃ m, k = m + 1 := ⟨k - 1, by omega⟩
    simp only [halyardlaw27_long.l0]
    rw [if_neg (show ¬ i < 200 by omega)]
    split
    · split
      · exact ⟨_, rfl, by simp⟩
      · exact ⟨_, rfl, fun _ => by omega⟩
    · split
      · exact ⟨_, rfl, by simp⟩
      · exact ⟨_, rfl, fun _ => by omega⟩
  | succ d ih =>
    intro k s i h0 h1 hd hk
    obtain ⟨k, rfl⟩ : ∃ m, k = m + 1 := ⟨k - 1, by omega⟩
    simp only [halyardlaw27_long.l0]
    by_cases c : i < (l.length : Int)
    · rw [if_pos c]
      by_cases c2 : i < 200
      · rw [if_pos c2, if_pos h0, show wrap64 (i + 1) = i + 1 by unfold wrap64; omega]
        exact ih k _ (i + 1) (by omega) (by omega) (by omega) (by omega)
      · rw [if_neg c2]
        split
        · exact ⟨_, rfl, by simp⟩
        · exact ⟨_, rfl, fun _ => by omega⟩
    · rw [if_neg c]
      split
      · exact ⟨_, rfl, by simp⟩
      · exact ⟨_, rfl, fun _ => by omega⟩
theorem long_val (l : List S30) : ∃ b, halyardlaw27_long.f 300 l = some b ∧ (b = false → l.length ≤ 100) :=
  long_go l 200 300 0 0 (by decide) (by decide) (by decide) (by decide)
theorem bytesLess_eq : ∀ a b : List UInt8, Op.bytesLess a b = decide (a < b)
  | [], [] => by simp [Op.bytesLess]
  | [], _ :: _ => by simp [Op.bytesLess]
  | _ :: _, [] => by simp [Op.bytesLess]
  | a :: l, b :: m => by
    have ih := bytesLess_eq l m
    unfold Op.bytesLess
    by_cases h1 : a < b
    · simp [h1, List.cons_lt_cons_iff]
    · by_cases h2 : a = b
      · subst h2; simp [ih, List.cons_lt_cons_iff]
      · simp [h1, h2, List.cons_lt_cons_iff]
theorem less_of (s t : ByteArray) : Op.bytesLess s.toList t.toList = Go.Proofs.YtdahijckoblbgaaHT.lt s t := by
  rw [bytesLess_eq, ByteArray.toList_eq, ByteArray.toList_eq]; rfl
/-- How many of the first k are enough. -/
def cntE (ls : List El) (rate : Int) (k : Nat) : Nat := ((ls.take k).filter (fun p => decide (rate ≤ p.f1))).length
theorem cntE_le (ls : List El) (rate : Int) (k : Nat) : cntE ls rate k ≤ ls.length := by
  unfold cntE
  have := List.length_filter_le (fun p : El => decide (rate ≤ p.f1)) (ls.take k)
  rw [List.length_take] at this; omega
theorem cntE_pos {ls : List El} {rate : Int} {x : El} (hx : x ∈ ls) (hr : rate ≤ x.f1) : 0 < cntE ls rate ls.length := by
  unfold cntE
  rw [List.take_length]
  exact List.length_pos_of_mem (List.mem_filter.mpr ⟨hx, by simpa using hr⟩)
theorem cntE_zero {ls : List El} {rate : Int} (h : ∀ p ∈ ls, p.f1 < rate) : cntE ls rate ls.length = 0 := by
  unfold cntE
  rw [List.take_length, List.length_eq_zero_iff, List.filter_eq_nil_iff]
  intro p hp
  have := h p hp
  simp; omega
theorem cntE_succ {ls : List El} (rate : Int) {k : Nat} {p : El} (hlt : k < ls.length) (hp : p = rd_T30 ls (k : Int)) : cntE ls rate (k + 1) = cntE ls rate k + if rate ≤ p.f1 then 1 else 0 := by
  have e : ls.take (k + 1) = ls.take k ++ [p] := by
    rw [List.take_succ_eq_append_getElem hlt, hp]
    unfold rd_T30
    rw [Int.toNat_natCast, List.getD_eq_getElem?_getD, List.getElem?_eq_getElem hlt]; rfl
  unfold cntE
  rw [e, List.filter_append, List.length_append, List.filter_cons]
  by_cases h : rate ≤ p.f1 <;> simp [h]
set_option maxRecDepth 100000 in
set_option maxHeartbeats 4000000 in
theorem PlansFit_ok (A0 : Option Addr) (c0 : Nat) (l ls : List El) (a1 a2 : Int) (w : World) (hr : Kd.C k30 w A0 l.length l) (hc : l.length ≤ c0) (hs : ∀ x ∈ l, x.f0.size ≤ 140737488351232) (_l1 : -9223372036854775808 ≤ a1) (_u1 : a1 ≤ 9223372036854775807) (_l2 : -9223372036854775808 ≤ a2) (_u2 : a2 ≤ 9223372036854775807)
    (hl : halyardlaw27_long.f 300 l = some false) (hn : newAll l = (0, ls)) :
    Calls Try.prog 3 #[.slice A0 l.length c0, .int .i64 a1, .int .i64 a2] w (AliveRet w) := by
  have hv : Valid ls := by have := new_valid l (0, []) Valid.nil; rw [show l.foldl new1 (0, []) = (0, ls) from hn] at this; exact this
  obtain ⟨⟨x, is⟩, hx⟩ : ∃ p, fits ls a1 = p := ⟨_, rfl⟩
  obtain ⟨⟨y, so⟩, hy⟩ : ∃ p, fits ls (max a1 a2) = p := ⟨_, rfl⟩
  have fx := fits_is a1 ls hv.up
  have fy := fits_is (max a1 a2) ls hv.up
  rw [hx] at fx
  rw [hy] at fy
  dsimp only at fx fy
  have FX := Aside0.mk fx
  have FY := Aside0.mk fy
  have HX := Aside0.mk hx
  have HY := Aside0.mk hy
  have HN := Aside0.mk hn
  have HL := Aside0.mk hl
  have HV := Aside0.mk hv
  have HR := Aside0.mk hr
  have HC := Aside0.mk hc
  have HS := Aside0.mk hs
  have HB := Aside0.mk (Below.refl w.heap.size w)
  have huE := Try.underlying30
  have hlen := hv.len
  clear hr hc hs hl hn hv fx fy hx hy
  go_enter Try.func3, Try.ntmps3
  go_wp2_with (first
    | (go_at_call 9; go_must (refine (halyardlaw27_long.calls 300 A0 c0 l false _ HR.out HC.out HL.out).mono ?_); go_must (rintro e w1 ⟨rfl, hd⟩; replace HR := Aside0.mk (Kd.C_below HR.out (drawn_below hd)); replace HB := Aside0.mk (below_step HB.out (drawn_below hd))); clear hd)
    | (go_at_call 11; go_must (refine (New_ok HN.out HR.out HC.out HS.out).mono ?_); go_must (rintro e w2 ⟨g, b, rfl, hbk, hg0, hb0, hb1⟩; have HK := Aside0.mk hbk; replace HB := Aside0.mk (below_step HB.out hb1)); clear hbk hb1)
    | (go_at_call 12; go_must (refine (Fits_ x.f0 x.f1 is (by repeat (first | (with_reducible exact HK.out) | (with_reducible apply BookAt.alloc) | (with_reducible apply BookAt.drew))) HV.out HX.out).mono ?_); go_must (rintro e w3 ⟨rfl, hb1⟩; have HK_ := Aside0.mk (BookAt.kb (by repeat (first | (with_reducible exact HK.out) | (with_reducible apply BookAt.alloc) | (with_reducible apply BookAt.drew))) hb1); have HB_ := Aside0.mk (below_step (by repeat (first | (with_reducible first | exact HB.out | apply below_alloc | apply pw_below_drewN | apply below_drew1 | apply below_drew) | (refine Below.setCell ?_ (by first | (simp; done) | (simp; omega)) _))) hb1); replace HK := HK_; replace HB := HB_; clear HK_ HB_ hb1))
    | (go_at_call 13; go_must (refine (List_ g b ls _ (by repeat (first | (with_reducible exact HK.out) | (with_reducible apply BookAt.alloc) | (with_reducible apply BookAt.drew))) HV.out).mono ?_); go_must (rintro e w4 ⟨v, rfl, hrow, hb1⟩; obtain ⟨ar, cap, rfl, hcap, hC, hblk⟩ := C_of_own hrow; have HCC := Aside0.mk hC; have HXX := Aside0.mk (elAt_call (x := x) (B := w3.heap.size) (by first | exact elAt_at x rfl | exact (elAt_at x rfl).drew) hb1); have HK_ := Aside0.mk (BookAt.kb (by repeat (first | (with_reducible exact HK.out) | (with_reducible apply BookAt.alloc) | (with_reducible apply BookAt.drew))) hb1); have HB_ := Aside0.mk (below_step (by repeat (first | (with_reducible first | exact HB.out | apply below_alloc | apply pw_below_drewN | apply below_drew1 | apply below_drew) | (refine Below.setCell ?_ (by first | (simp; done) | (simp; omega)) _))) hb1); replace HK := HK_; replace HB := HB_; clear HK_ HB_ hb1 hrow hC hblk)))
  go_loopw [12, 13] (fun v12 v13 wr => ∃ k n : Nat, k ≤ ls.length ∧ v13 = .int .i64 (k : Int) ∧ v12 = .int .i64 (cntE ls a1 k : Nat) ∧ wr = w4.drewN n) (fun _ v13 _ => ls.length - (intOf v13).toNat)
  case atStart => exact ⟨0, 0, by omega, rfl, rfl, rfl⟩
  case round =>
    obtain ⟨k, n, hk, rfl, rfl, rfl⟩ := hrel
    have hcl := cntE_le ls a1 k
    by_cases hlt : k < ls.length
    · obtain ⟨p, hp⟩ : ∃ p, p = rd_T30 ls k := ⟨_, rfl⟩
      obtain ⟨ad, rfl, q0, q1⟩ := at_T30 HCC.out (k : Int) (by omega) (by omega)
      rw [← hp, Int.toNat_natCast] at q0 q1
      have hlt' : (k : Int) < (ls.length : Int) := by omega
      have hsn := cntE_succ a1 hlt hp
      have hpm : p ∈ ls := by
        rw [hp]; unfold rd_T30
        rw [Int.toNat_natCast, List.getD_eq_getElem?_getD, List.getElem?_eq_getElem hlt]
        exact List.getElem_mem _
      clear hp
      by_cases c1 : p.f1 < a1
      · have HN1 := Aside0.mk (show cntE ls a1 (k + 1) = cntE ls a1 k by rw [hsn, if_neg (by omega)]; rfl)
        clear hsn hpm
        go_wp2_with fail
        go_roundw
        case rel => exact ⟨k + 1, n, by omega, by go_num, by rw [HN1.out], rfl⟩
        case measure => simp [intOf]; omega
      · have HN1 := Aside0.mk (show cntE ls a1 (k + 1) = cntE ls a1 k + 1 by rw [hsn, if_pos (by omega)])
        obtain ⟨hi, hle, hnm⟩ := FX.out.least p hpm (by omega)
        subst hi
        have e0 := HXX.out.cell 0
        have e1 := HXX.out.cell 1
        simp only [cel, List.getElem?_cons_zero, List.getElem?_cons_succ] at e0 e1
        have d1 : decide (p.f1 < x.f1) = false := decide_eq_false (by omega)
        by_cases c2 : p.f1 = x.f1
        · have d2 : (p.f1 == x.f1) = true := beq_iff_eq.mpr c2
          have d3 := hnm c2
          rw [← less_of] at d3
          clear hsn hpm hnm hle
          go_wp2_with fail
          go_quiet (fail)
          go_wp2_with fail
          all_goals (first | (exact ⟨⟨k + 1, _, by omega, by go_num, by rw [HN1.out]; go_num, rfl⟩, by simp [intOf]; omega⟩) | rfl)
        · have d2 : (p.f1 == x.f1) = false := beq_eq_false_iff_ne.mpr c2
          clear hsn hpm hnm hle
          go_wp2_with fail
          go_quiet (fail)
          go_wp2_with fail
          all_goals (first | (exact ⟨⟨k + 1, _, by omega, by go_num, by rw [HN1.out]; go_num, rfl⟩, by simp [intOf]; omega⟩) | rfl)
    · have hk' : k = ls.length := by omega
      subst hk'
      have hge : ¬ (ls.length : Int) < (ls.length : Int) := by omega
      have e0 := HXX.out.cell 0
      have e1 := HXX.out.cell 1
      simp only [cel, List.getElem?_cons_zero, List.getElem?_cons_succ] at e0 e1
      have zx := blk_lt HXX.out
      clear hlt
      cases is with
      | true =>
        have hp : (0 : Int) < (cntE ls a1 ls.length : Int) := by
          have := cntE_pos (FX.out.yes rfl).1 (FX.out.yes rfl).2; omega
        have hr1 : ¬ x.f1 < a1 := by have := (FX.out.yes rfl).2; omega
        have HK4 := Aside0.mk (show BookAt (w4.drewN n) g b ls from HK.out)
        have HB4 := Aside0.mk (show Below w.heap.size w (w4.drewN n) from pw_below_drewN HB.out n)
        have HM := Aside0.mk (fun (h : so = true) => show x.f1 ≤ y.f1 from by
          have q := FY.out.yes h
          exact (FX.out.least y q.1 (by have := q.2; omega)).2.1)
        cases so with
        | true =>
          have hm := HM.out rfl
          have hge2 : decide (x.f1 ≤ y.f1) = true := decide_eq_true hm
          go_wp2_with (first
            | (go_at_call 12; go_must (refine (Fits_ y.f0 y.f1 _ HK4.out HV.out HY.out).mono ?_); go_must (rintro e w5 ⟨rfl, hb1⟩; replace HB := Aside0.mk (below_step HB4.out hb1); have HX5 := Aside0.mk (elAt_call (show ElAt (w4.drewN n) w3.heap.size _ from HXX.out) hb1); have x5 := HX5.out.cell 0; have x6 := HX5.out.cell 1; simp only [cel, List.getElem?_cons_zero, List.getElem?_cons_succ] at x5 x6; have zx5 := blk_lt HX5.out); clear hb1)
            | (go_at_call 10; go_must (refine (alive _).mono ?_); go_must (rintro e w6 ⟨rfl, hb1⟩; replace HB := Aside0.mk (below_step (by repeat (first | (with_reducible first | exact HB.out | apply below_alloc | apply pw_below_drewN | apply below_drew1 | apply below_drew) | (refine Below.setCell ?_ (by first | (simp; done) | (simp; omega)) _))) hb1)); clear hb1))
          first | (go_ret; exact ⟨rfl, HB.out⟩)
        | false =>
          go_wp2_with (first
            | (go_at_call 12; go_must (refine (Fits_ y.f0 y.f1 _ HK4.out HV.out HY.out).mono ?_); go_must (rintro e w5 ⟨rfl, hb1⟩; replace HB := Aside0.mk (below_step HB4.out hb1); have HX5 := Aside0.mk (elAt_call (show ElAt (w4.drewN n) w3.heap.size _ from HXX.out) hb1); have x5 := HX5.out.cell 0; have x6 := HX5.out.cell 1; simp only [cel, List.getElem?_cons_zero, List.getElem?_cons_succ] at x5 x6; have zx5 := blk_lt HX5.out); clear hb1)
            | (go_at_call 10; go_must (refine (alive _).mono ?_); go_must (rintro e w6 ⟨rfl, hb1⟩; replace HB := Aside0.mk (below_step (by repeat (first | (with_reducible first | exact HB.out | apply below_alloc | apply pw_below_drewN | apply below_drew1 | apply below_drew) | (refine Below.setCell ?_ (by first | (simp; done) | (simp; omega)) _))) hb1)); clear hb1))
          first | (go_ret; exact ⟨rfl, HB.out⟩)
      | false =>
        obtain ⟨hxz, hno⟩ := FX.out.no rfl
        have hp : cntE ls a1 ls.length = 0 := cntE_zero hno
        have hxz' : x = ⟨⟨#[]⟩, 0⟩ := hxz
        clear hxz
        subst hxz'
        have HK4 := Aside0.mk (show BookAt (w4.drewN n) g b ls from HK.out)
        have HB4 := Aside0.mk (show Below w.heap.size w (w4.drewN n) from pw_below_drewN HB.out n)
        have hso : so = false := by
          cases so with
          | false => rfl
          | true =>
            have q := FY.out.yes rfl
            have := hno y q.1
            have := q.2
            omega
        subst hso
        clear hno
        rw [hp]
        clear hp
        go_wp2_with (first
          | (go_at_call 12; go_must (refine (Fits_ y.f0 y.f1 _ HK4.out HV.out HY.out).mono ?_); go_must (rintro e w5 ⟨rfl, hb1⟩; replace HB := Aside0.mk (below_step HB4.out hb1); have HX5 := Aside0.mk (elAt_call (show ElAt (w4.drewN n) w3.heap.size _ from HXX.out) hb1); have x5 := HX5.out.cell 0; have x6 := HX5.out.cell 1; simp only [cel, List.getElem?_cons_zero, List.getElem?_cons_succ] at x5 x6; have zx5 := blk_lt HX5.out); clear hb1)
          | (go_at_call 10; go_must (refine (alive _).mono ?_); go_must (rintro e w6 ⟨rfl, hb1⟩; replace HB := Aside0.mk (below_step (by repeat (first | (with_reducible first | exact HB.out | apply below_alloc | apply pw_below_drewN | apply below_drew1 | apply below_drew) | (refine Below.setCell ?_ (by first | (simp; done) | (simp; omega)) _))) hb1)); clear hb1))
        first | (go_ret; exact ⟨rfl, HB.out⟩)
set_option maxRecDepth 100000 in
set_option maxHeartbeats 4000000 in
theorem PlansFit_err (A0 : Option Addr) (c0 : Nat) (l ls : List El) (c : Int) (a1 a2 : Int) (w : World) (hr : Kd.C k30 w A0 l.length l) (hc : l.length ≤ c0) (hs : ∀ x ∈ l, x.f0.size ≤ 140737488351232)
    (hl : halyardlaw27_long.f 300 l = some false) (hn : newAll l = (c, ls)) (h0 : c ≠ 0) :
    Calls Try.prog 3 #[.slice A0 l.length c0, .int .i64 a1, .int .i64 a2] w (AliveRet w) := by
  have HN := Aside0.mk hn
  have H0 := Aside0.mk h0
  have hcb : (c == 0) = false := beq_eq_false_iff_ne.mpr h0
  have HL := Aside0.mk hl
  have HR := Aside0.mk hr
  have HC := Aside0.mk hc
  have HS := Aside0.mk hs
  have HB := Aside0.mk (Below.refl w.heap.size w)
  clear hr hc hs hl hn h0
  go_enter Try.func3, Try.ntmps3
  go_wp2_with (first
    | (go_at_call 9; go_must (refine (halyardlaw27_long.calls 300 A0 c0 l false _ HR.out HC.out HL.out).mono ?_); go_must (rintro e w1 ⟨rfl, hd⟩; replace HR := Aside0.mk (Kd.C_below HR.out (drawn_below hd)); replace HB := Aside0.mk (below_step HB.out (drawn_below hd))); clear hd)
    | (go_at_call 11; go_must (refine (New_err HN.out H0.out HR.out HC.out HS.out).mono ?_); go_must (rintro e w2 ⟨rfl, hb1⟩; replace HB := Aside0.mk (below_step HB.out hb1)); clear hb1)
    | (go_at_call 10; go_must (refine (alive _).mono ?_); go_must (rintro e w6 ⟨rfl, hb1⟩; replace HB := Aside0.mk (below_step HB.out hb1)); clear hb1))
  all_goals (first | exact absurd (by assumption) H0.out | (go_ret; exact ⟨rfl, HB.out⟩))
set_option maxRecDepth 100000 in
set_option maxHeartbeats 4000000 in
theorem PlansFit_long (A0 : Option Addr) (c0 : Nat) (l : List El) (a1 a2 : Int) (w : World) (hr : Kd.C k30 w A0 l.length l) (hc : l.length ≤ c0) (hl : halyardlaw27_long.f 300 l = some true) :
    Calls Try.prog 3 #[.slice A0 l.length c0, .int .i64 a1, .int .i64 a2] w (AliveRet w) := by
  have HL := Aside0.mk hl
  have HR := Aside0.mk hr
  have HC := Aside0.mk hc
  have HB := Aside0.mk (Below.refl w.heap.size w)
  clear hr hc hl
  go_enter Try.func3, Try.ntmps3
  go_wp2_with (first
    | (go_at_call 9; go_must (refine (halyardlaw27_long.calls 300 A0 c0 l true _ HR.out HC.out HL.out).mono ?_); go_must (rintro e w1 ⟨rfl, hd⟩; replace HB := Aside0.mk (below_step HB.out (drawn_below hd))); clear hd)
    | (go_at_call 10; go_must (refine (alive _).mono ?_); go_must (rintro e w6 ⟨rfl, hb1⟩; replace HB := Aside0.mk (below_step HB.out hb1)); clear hb1))
  go_ret
  exact ⟨rfl, HB.out⟩
theorem PlansFit_run (A0 : Option Addr) (c0 : Nat) (l : List El) (a1 a2 : Int) (w : World) (hr : Kd.C k30 w A0 l.length l) (hc : l.length ≤ c0) (hs : ∀ x ∈ l, x.f0.size ≤ 140737488351232) (_l1 : -9223372036854775808 ≤ a1) (_u1 : a1 ≤ 9223372036854775807) (_l2 : -9223372036854775808 ≤ a2) (_u2 : a2 ≤ 9223372036854775807) :
    Calls Try.prog 3 #[.slice A0 l.length c0, .int .i64 a1, .int .i64 a2] w (AliveRet w) := by
  obtain ⟨b, hb, _⟩ := long_val l
  cases b with
  | true => exact PlansFit_long A0 c0 l a1 a2 w hr hc hb
  | false =>
    obtain ⟨⟨c, ls⟩, hn⟩ : ∃ p, newAll l = p := ⟨_, rfl⟩
    by_cases h0 : c = 0
    · subst h0; exact PlansFit_ok A0 c0 l ls a1 a2 w hr hc hs _l1 _u1 _l2 _u2 hb hn
    · exact PlansFit_err A0 c0 l ls c a1 a2 w hr hc hs hb hn h0
end Go.Proofs.YtdahijckoblbgaaHVP
