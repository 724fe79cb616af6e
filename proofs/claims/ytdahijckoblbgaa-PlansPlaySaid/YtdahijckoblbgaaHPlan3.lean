/- plans.Book: List, Copy, Fits. -/
import Derived.Test.YtdahijckoblbgaaHPlan2
namespace Go.Proofs.YtdahijckoblbgaaHVP
open Go.RowKit Go.Maps Go.Sort Go.Shelf Go.Lib Go.Proofs.YtdahijckoblbgaaW.PrintWords Go.Proofs.YtdahijckoblbgaaHW Go.Proofs.YtdahijckoblbgaaHG Go.Proofs.Ytdahijckoblbgaa.PG27 Go.Proofs.YtdahijckoblbgaaHT
set_option linter.unusedVariables false
set_option linter.unusedSimpArgs false
theorem MapIs.clone {b c : Nat} {M : Lit → Option Value} {w : World} (h : MapIs Try.prog 9 ZP w b M c) :
    Calls Try.prog 47 #[.map (some b)] w fun e w' => e = .returned (.map (some w.heap.size)) ∧ MapIs Try.prog 9 ZP w' w.heap.size M c ∧ Below w.heap.size w w' := by
  obtain ⟨D, ho, hs, hM⟩ := h
  exact (AnyW.maps_Clone_owns Try.clonePlan 9 RG b c D w ho).mono fun e w' ⟨he, h1, _, h3⟩ => ⟨he, ⟨D, h1, hs, hM⟩, h3⟩
set_option maxRecDepth 100000 in
set_option maxHeartbeats 2000000 in
theorem List_ (g b : Nat) (ls : List El) (w : World) (h : BookAt w g b ls) (hv : Valid ls) :
    Calls Try.prog 13 #[.pointer (some ⟨g, 0, none⟩)] w (ListPost ls w) := by
  have k0 := blk_cell h.1 0
  simp only [List.getElem?_toArray, List.getElem?_cons_zero, List.getElem?_cons_succ] at k0
  have cS := book_sorted b ls w h.2.1 hv.up (by have := hv.len; omega)
  have huB := Try.underlying82
  have huK := Try.underlying84
  have HS := Aside0.mk cS
  clear h hv cS
  go_enter Try.func13, Try.ntmps13
  go_wp2_with (go_at_call 44; refine HS.out.mono ?_; rintro e w1 ⟨v, rfl, hrow, hb⟩; have HR := Aside0.mk hrow; have HB := Aside0.mk hb; clear hrow hb)
  go_ret
  exact ⟨v, rfl, HR.out, HB.out⟩
def CopyPost (ls : List El) (w : World) (e : Ending) (w' : World) : Prop := ∃ g' b', e = .returned (.pointer (some ⟨g', 0, none⟩)) ∧ BookAt w' g' b' ls ∧ w.heap.size ≤ g' ∧ w.heap.size ≤ b' ∧ Below w.heap.size w w'
set_option maxRecDepth 100000 in
set_option maxHeartbeats 2000000 in
theorem Copy (g b : Nat) (ls : List El) (w : World) (h : BookAt w g b ls) :
    Calls Try.prog 19 #[.pointer (some ⟨g, 0, none⟩)] w (CopyPost ls w) := by
  have k0 := blk_cell h.1 0
  simp only [List.getElem?_toArray, List.getElem?_cons_zero, List.getElem?_cons_succ] at k0
  have zg := blk_lt h.1
  have HG := Aside0.mk h
  have HM := Aside0.mk h.2.1
  have HB := Aside0.mk (Below.refl w.heap.size w)
  have huB := Try.underlying82
  have huK := Try.underlying84
  clear h
  go_enter Try.func19, Try.ntmps19
  go_wp2_with (go_at_call 47; go_must (refine (MapIs.clone (by repeat (first | exact HM.out | apply MapIs.alloc | apply MapIs.drewN | apply MapIs.drew))).mono ?_); go_must (rintro e w1 ⟨rfl, hm1, hb1⟩; have HM1 := Aside0.mk hm1; have HB1 := Aside0.mk (below_step (by repeat (first | (with_reducible first | exact HB.out | apply below_alloc | apply pw_below_drewN | apply below_drew1 | apply below_drew) | (refine Below.setCell ?_ (by first | (simp; done) | (simp; omega)) _))) hb1)); clear hm1 hb1)
  go_ret
  refine ⟨_, _, rfl, ⟨?_, HM1.out.alloc _, ?_⟩, ?_, ?_, HB1.out.alloc HB1.out.size _⟩
  · exact heap_alloc_new w1 _
  · have := HM1.out.lt; omega
  · have := HM1.out.lt; omega
  · exact Nat.le_refl _
/-- What fits: by one plan after another. -/
def fit1 (rate : Int) (acc : El × Bool) (p : El) : El × Bool := if rate ≤ p.f1 ∧ (acc.2 = false ∨ p.f1 < acc.1.f1) then (p, true) else acc
def fits (ls : List El) (rate : Int) : El × Bool := ls.foldl (fit1 rate) (z30, false)
theorem x_set {W : World} {B : Nat} {x : El} (h : ElAt W B x) (p : El) : ElAt ((W.setCell ⟨B, 0, none⟩ (.string p.f0)).setCell ⟨B, 1, none⟩ (.int .i64 p.f1)) B p := by
  have z := blk_set (blk_set h 0 (.string p.f0)) 1 (.int .i64 p.f1)
  exact z
theorem kb_set2 (W : World) (B : Nat) (u v : Value) : KB B W ((W.setCell ⟨B, 0, none⟩ u).setCell ⟨B, 1, none⟩ v) :=
  ⟨rfl, rfl, rfl, by simp, fun j hj hne => by rw [Below.heap_setCell _ _ _ _ hne, Below.heap_setCell _ _ _ _ hne]⟩
theorem C_kb {w w' : World} {b n : Nat} {A : Option Addr} {xs : List El} (h : Kd.C k30 w A n xs) (hk : KB b w w') (hne : ∀ a, A = some a → a.block ≠ b) : Kd.C k30 w' A n xs := by
  obtain ⟨h1, h2, h3⟩ := h
  refine ⟨h1, h2, fun h0 => ?_⟩
  obtain ⟨ad, e, hc⟩ := h3 h0
  refine ⟨ad, e, fun j p hp => ?_⟩
  obtain ⟨c, hl, hK, hcell⟩ := hc j p hp
  refine ⟨c, hl, hK, fun i u hu => ?_⟩
  have z := hcell i u hu
  have hb : (ad.add (j * k30.sz + i)).block = ad.block := by unfold Addr.add; split <;> rfl
  rw [World.cell?_of_block (hk.2.2.2.2 _ (World.block_lt_of_cell? w _ z) (by rw [hb]; exact hne ad e))]
  exact z
theorem fits_snoc {ls : List El} {k : Nat} {p : El} {rate : Int} {acc : El × Bool} (hlt : k < ls.length) (hp : p = rd_T30 ls (k : Int)) (ha : fits (ls.take k) rate = acc) : fits (ls.take (k + 1)) rate = fit1 rate acc p := by
  have e : ls.take (k + 1) = ls.take k ++ [p] := by
    rw [List.take_succ_eq_append_getElem hlt, hp]
    unfold rd_T30
    rw [Int.toNat_natCast, List.getD_eq_getElem?_getD, List.getElem?_eq_getElem hlt]; rfl
  unfold fits at *
  rw [e, List.foldl_append, ha]; rfl
def FitsPost (ls : List El) (rate : Int) (w : World) (e : Ending) (w' : World) : Prop := e = .returned (.tuple #[.agg #[.string (fits ls rate).1.f0, .int .i64 (fits ls rate).1.f1], .bool (fits ls rate).2]) ∧ Below w.heap.size w w'
set_option maxRecDepth 100000 in
set_option maxHeartbeats 2000000 in
theorem Fits (g b : Nat) (ls : List El) (rate : Int) (w : World) (h : BookAt w g b ls) (hv : Valid ls) :
    Calls Try.prog 12 #[.pointer (some ⟨g, 0, none⟩), .int .i64 rate] w (FitsPost ls rate w) := by
  have hl := hv.len
  have HG := Aside0.mk h
  have HV := Aside0.mk hv
  have HB := Aside0.mk (Below.refl w.heap.size w)
  have huE := Try.underlying30
  clear h hv
  go_enter Try.func12, Try.ntmps12
  go_wp2_with (go_at_call 13; go_must (refine (List_ g b ls _ (HG.out.kb (by repeat (first | (with_reducible first | exact HB.out | apply below_alloc | apply pw_below_drewN | apply below_drew1 | apply below_drew) | (refine Below.setCell ?_ (by first | (simp; done) | (simp; omega)) _)))) HV.out).mono ?_); go_must (rintro e w1 ⟨v, rfl, hrow, hb1⟩; obtain ⟨ar, cap, rfl, hcap, hC, hblk⟩ := C_of_own hrow; have HC := Aside0.mk hC; have HK := Aside0.mk (KB.below (b := w.heap.size) hb1); have HB1 := Aside0.mk (below_step (by repeat (first | (with_reducible first | exact HB.out | apply below_alloc | apply pw_below_drewN | apply below_drew1 | apply below_drew) | (refine Below.setCell ?_ (by first | (simp; done) | (simp; omega)) _))) hb1)); have HN := Aside0.mk hblk; have HX := Aside0.mk (elAt_call (elAt_new w z30) hb1); clear hrow hb1 hC hblk)
  have hl0 : (ls.length : Int) ≤ 32 := by omega
  go_loopw [5, 11] (fun v5 v11 wr => ∃ k : Nat, k ≤ ls.length ∧ v11 = .int .i64 (k : Int) ∧ v5 = .bool (fits (ls.take k) rate).2 ∧ Aside0 (ElAt wr w.heap.size (fits (ls.take k) rate).1) ∧ Aside0 (KB w.heap.size w1 wr)) (fun _ v11 _ => ls.length - (intOf v11).toNat)
  case atStart => exact ⟨0, by omega, rfl, rfl, HX, ⟨KB.refl _ _⟩⟩
  case round =>
    clear HX HK
    obtain ⟨k, hk, rfl, rfl, HX, HK⟩ := hrel
    obtain ⟨acc, hacc⟩ : ∃ acc, fits (ls.take k) rate = acc := ⟨_, rfl⟩
    rw [hacc] at HX ⊢
    obtain ⟨a1, i1⟩ := acc
    dsimp only at HX ⊢
    have e0 := HX.out.cell 0
    have e1 := HX.out.cell 1
    simp only [cel, List.getElem?_cons_zero, List.getElem?_cons_succ] at e0 e1
    have zx := blk_lt HX.out
    have f0 := blk_frozen HX.out 0
    have f1 := blk_frozen HX.out 1
    by_cases hlt : k < ls.length
    · obtain ⟨p, hp⟩ : ∃ p, p = rd_T30 ls k := ⟨_, rfl⟩
      have HC2 := C_kb HC.out HK.out (fun a e => by have := (HN.out a e).1; simp at this; omega)
      obtain ⟨ad, rfl, q0, q1⟩ := at_T30 HC2 (k : Int) (by omega) (by omega)
      rw [← hp, Int.toNat_natCast] at q0 q1
      have hlt' : (k : Int) < (ls.length : Int) := by omega
      have HS := Aside0.mk (fits_snoc hlt hp hacc)
      clear HC2 hp hacc
      by_cases c1 : rate ≤ p.f1
      · have d1 : decide (rate ≤ p.f1) = true := decide_eq_true c1
        cases i1 with
        | false =>
          have hF : fit1 rate (a1, false) p = (p, true) := by unfold fit1; rw [if_pos ⟨c1, Or.inl rfl⟩]
          replace hF := Aside0.mk hF
          clear c1
          go_wp2_with fail
          go_roundw
          case rel => exact ⟨k + 1, by omega, by go_num, by rw [HS.out, hF.out], ⟨by rw [HS.out, hF.out]; exact (x_set HX.out p).alloc _⟩, ⟨HK.out.trans ((kb_set2 wr w.heap.size _ _).trans (KB.below ((Below.refl _ _).alloc (Nat.le_refl _) _)))⟩⟩
          case measure => simp [intOf]; omega
        | true =>
          by_cases c2 : p.f1 < a1.f1
          · have d2 : decide (p.f1 < a1.f1) = true := decide_eq_true c2
            have hF : fit1 rate (a1, true) p = (p, true) := by unfold fit1; rw [if_pos ⟨c1, Or.inr c2⟩]
            replace hF := Aside0.mk hF
            clear c1 c2
            go_wp2_with fail
            go_roundw
            case rel => exact ⟨k + 1, by omega, by go_num, by rw [HS.out, hF.out], ⟨by rw [HS.out, hF.out]; exact (x_set HX.out p).alloc _⟩, ⟨HK.out.trans ((kb_set2 wr w.heap.size _ _).trans (KB.below ((Below.refl _ _).alloc (Nat.le_refl _) _)))⟩⟩
            case measure => simp [intOf]; omega
          · have d2 : decide (p.f1 < a1.f1) = false := decide_eq_false c2
            have hF : fit1 rate (a1, true) p = (a1, true) := by unfold fit1; rw [if_neg (by rintro ⟨_, h | h⟩; (· exact absurd h (by simp)); (· exact c2 h))]
            replace hF := Aside0.mk hF
            clear c1 c2
            go_wp2_with fail
            go_roundw
            case rel => exact ⟨k + 1, by omega, by go_num, by rw [HS.out, hF.out], ⟨by rw [HS.out, hF.out]; exact HX.out.alloc _⟩, ⟨HK.out.trans (KB.below ((Below.refl _ wr).alloc (Nat.le_refl _) _))⟩⟩
            case measure => simp [intOf]; omega
      · have d1 : decide (rate ≤ p.f1) = false := decide_eq_false c1
        have hF : fit1 rate (a1, i1) p = (a1, i1) := by unfold fit1; rw [if_neg (fun h => c1 h.1)]
        replace hF := Aside0.mk hF
        clear c1
        go_wp2_with fail
        go_roundw
        case rel => exact ⟨k + 1, by omega, by go_num, by rw [HS.out, hF.out], ⟨by rw [HS.out, hF.out]; exact HX.out.alloc _⟩, ⟨HK.out.trans (KB.below ((Below.refl _ wr).alloc (Nat.le_refl _) _))⟩⟩
        case measure => simp [intOf]; omega
    · have hk' : k = ls.length := by omega
      have hge : ¬ (k : Int) < (ls.length : Int) := by omega
      have HE := Aside0.mk hacc
      have HK' := Aside0.mk hk'
      clear hlt hacc hk'
      go_wp2_with fail
      have hv2 := x_set HX.out a1
      have hrw := HE.out
      rw [HK'.out, List.take_length] at hrw
      refine bodyPost_ret (v := .tuple #[.agg #[.string a1.f0, .int .i64 a1.f1], .bool i1]) (by simp [results, Try.results12, go_sem, zx, e0, e1]) rfl ⟨by rw [hrw], ?_⟩
      exact KB.to_below HB1.out (HK.out.trans (kb_set2 _ _ _ _)) (Nat.le_refl _) HB1.out.size
end Go.Proofs.YtdahijckoblbgaaHVP
