/- The document's answer to plans: a row that rises by names. -/
import Derived.Test.YtdahijckoblbgaaHPlanFit
import Derived.Laws.OwnMore
import Derived.Laws.AppendOwnNone
import Derived.Deep.AppendLies
namespace Go.Proofs.YtdahijckoblbgaaHVP
open Go.RowKit Go.Maps Go.Sort Go.Shelf Go.Lib Go.Proofs.YtdahijckoblbgaaW.PrintWords Go.Proofs.YtdahijckoblbgaaHW Go.Proofs.YtdahijckoblbgaaHG Go.Proofs.Ytdahijckoblbgaa.PG27 Go.Proofs.YtdahijckoblbgaaHT
set_option linter.unusedVariables false
set_option linter.unusedSimpArgs false
/-- The document's book: its block, its row. -/
def RefB (w : World) (r : Nat) (ls : List El) : Prop := ∃ v, w.heap[r]? = some (.cells #[v] 49 (0, 0)) ∧ w.ownsRow 0 30 2 v ls.length (ls.flatMap cel) ∧ v.ownBlock ≠ some r
theorem RefB.below {w w1 : World} {r : Nat} {ls : List El} (h : RefB w r ls) (hb : Below w.heap.size w w1) : RefB w1 r ls := by
  obtain ⟨v, h1, h2, h3⟩ := h
  exact ⟨v, hw_below h1 hb, pw_own_below h2 hb, h3⟩
theorem RefB.parts {w : World} {r : Nat} {ls : List El} (h : RefB w r ls) : ∃ A cap, w.cell? ⟨r, 0, none⟩ = some (.slice A ls.length cap) ∧ ls.length ≤ cap ∧ Kd.C k30 w A ls.length ls := by
  obtain ⟨v, h1, h2, h3⟩ := h
  obtain ⟨A, cap, rfl, hcap, hC, _⟩ := C_of_own h2
  have k := blk_cell h1 0
  simp only [List.getElem?_toArray, List.getElem?_cons_zero] at k
  exact ⟨A, cap, k, hcap, hC⟩
theorem rd_of {ls : List El} {i : Nat} {p : El} (h : ls[i]? = some p) : rd_T30 ls (i : Int) = p := by
  obtain ⟨hl, e⟩ := List.getElem?_eq_some_iff.1 h
  unfold rd_T30
  rw [Int.toNat_natCast, List.getD_eq_getElem?_getD, h]; rfl
theorem isSome_at {ls : List El} (hv : Up nm ls) {s : ByteArray} {i : Nat} {p : El} (he : ix nm ls s = i) (hp : ls[i]? = some p) : (get nm ls s).isSome = decide (p.f0 = s) := by
  rw [get_ix hv, he, hp]
  show (if nm p = s then some p else none).isSome = _
  by_cases e : nm p = s
  · rw [if_pos e, show decide (p.f0 = s) = true from decide_eq_true e]; rfl
  · rw [if_neg e, show decide (p.f0 = s) = false from decide_eq_false e]; rfl
theorem isSome_end {ls : List El} (hv : Up nm ls) {s : ByteArray} {i : Nat} (he : ix nm ls s = i) (hp : ls.length ≤ i) : (get nm ls s).isSome = false := by
  rw [get_ix hv, he, List.getElem?_eq_none hp]; rfl
theorem str_eqs {s t : ByteArray} (h : s = t) : (s.toList == t.toList) = true ∧ (t.toList == s.toList) = true := by subst h; exact ⟨beq_self_eq_true _, beq_self_eq_true _⟩
theorem toList_inj {s t : ByteArray} (h : s.toList = t.toList) : s = t := by
  rw [ByteArray.toList_eq, ByteArray.toList_eq] at h
  have : s.data = t.data := Array.ext' h
  cases s; cases t; simp_all
theorem str_nes {s t : ByteArray} (h : ¬ s = t) : (s.toList == t.toList) = false ∧ (t.toList == s.toList) = false :=
  ⟨by rw [beq_eq_false_iff_ne]; exact fun e => h (toList_inj e), by rw [beq_eq_false_iff_ne]; exact fun e => h (toList_inj e).symm⟩
def AtPost (ls : List El) (s : ByteArray) (w : World) (e : Ending) (w' : World) : Prop := e = .returned (.tuple #[.int .i64 ((ix nm ls s : Nat) : Int), .bool (get nm ls s).isSome]) ∧ Below w.heap.size w w'
set_option maxRecDepth 100000 in
set_option maxHeartbeats 1000000 in
theorem AtOf (r : Nat) (s : ByteArray) (ls : List El) (w : World) (h : RefB w r ls) (hv : Up nm ls) (hl : ls.length ≤ 100000) :
    Calls Try.prog 48 #[.pointer (some ⟨r, 0, none⟩), .string s] w (AtPost ls s w) := by
  obtain ⟨A, cap, k0, hcap, hC⟩ := h.parts
  have HC := Aside0.mk hC
  have HB := Aside0.mk (Below.refl w.heap.size w)
  have HV := Aside0.mk hv
  clear hv hC h
  go_enter Try.func48, Try.ntmps48
  go_wp2_with fail
  go_loop [6] (fun v6 => ∃ i : Nat, i ≤ ls.length ∧ v6 = .int .i64 (i : Int) ∧ Aside0 (∀ j, j < i → ∀ q, ls[j]? = some q → lt (nm q) s = true)) (fun v6 => ls.length - (intOf v6).toNat)
  case atStart => exact ⟨0, by omega, rfl, ⟨fun j hj => by omega⟩⟩
  case round =>
    obtain ⟨i, hi, rfl, HL⟩ := hrel
    by_cases hlt : i < ls.length
    · obtain ⟨p, hp⟩ : ∃ p, ls[i]? = some p := ⟨_, List.getElem?_eq_getElem hlt⟩
      have hlt' : (i : Int) < (ls.length : Int) := by omega
      obtain ⟨ad, rfl, q0, q1⟩ := at_T30 HC.out (i : Int) (by omega) (by omega)
      rw [rd_of hp, Int.toNat_natCast] at q0 q1
      have HP := Aside0.mk hp
      clear hp
      cases hc : lt (nm p) s with
      | true =>
        have d := less_of p.f0 s
        rw [show lt p.f0 s = true from hc] at d
        have HE := Aside0.mk hc
        clear hc
        go_wp2_with fail
        go_round
        case rel => exact ⟨i + 1, by omega, by go_num, ⟨fun j hj q hq => by
          by_cases ej : j = i
          · rw [ej, HP.out] at hq; rw [← Option.some.inj hq]; exact HE.out
          · exact HL.out j (by omega) q hq⟩⟩
        case measure => simp [intOf]; omega
      | false =>
        have d := less_of p.f0 s
        rw [show lt p.f0 s = false from hc] at d
        have HI := Aside0.mk (ix_of ls s i hi HL.out (fun x hx => by rw [HP.out] at hx; rw [← Option.some.inj hx]; exact hc))
        have HS := Aside0.mk (isSome_at HV.out HI.out HP.out)
        clear hc
        by_cases e : p.f0 = s
        · obtain ⟨e1, e2⟩ := str_eqs e
          have HE := Aside0.mk e
          clear e
          go_wp2_with fail
          repeat (go_quiet (fail); try go_wp2)
          first | go_ret | go_ret2
          refine ⟨?_, (by repeat (first | (with_reducible first | exact HB.out | apply below_alloc | apply pw_below_drewN | apply below_drew1 | apply below_drew) | (refine Below.setCell ?_ (by first | (simp; done) | (simp; omega)) _)))⟩
          rw [HI.out, HS.out, decide_eq_true HE.out]; rfl
        · obtain ⟨e1, e2⟩ := str_nes e
          have HE := Aside0.mk e
          clear e
          go_wp2_with fail
          repeat (go_quiet (fail); try go_wp2)
          first | go_ret | go_ret2
          refine ⟨?_, (by repeat (first | (with_reducible first | exact HB.out | apply below_alloc | apply pw_below_drewN | apply below_drew1 | apply below_drew) | (refine Below.setCell ?_ (by first | (simp; done) | (simp; omega)) _)))⟩
          rw [HI.out, HS.out, decide_eq_false HE.out]; rfl
    · have hge : ¬ (i : Int) < (ls.length : Int) := by omega
      have HI := Aside0.mk (ix_of ls s i hi HL.out (fun x hx => by have := (List.getElem?_eq_some_iff.1 hx).1; omega))
      have HS := Aside0.mk (isSome_end HV.out HI.out (by omega))
      go_wp2_with fail
      repeat (go_quiet (fail); try go_wp2)
      first | go_ret | go_ret2
      refine ⟨?_, (by repeat (first | (with_reducible first | exact HB.out | apply below_alloc | apply pw_below_drewN | apply below_drew1 | apply below_drew) | (refine Below.setCell ?_ (by first | (simp; done) | (simp; omega)) _)))⟩
      rw [HI.out, HS.out]; rfl
theorem At_some {r : Nat} {s : ByteArray} {ls : List El} {w : World} {x : El} (h : RefB w r ls) (hv : Up nm ls) (hl : ls.length ≤ 100000) (hg : get nm ls s = some x) {i : Nat} (hi : ix nm ls s = i) :
    Calls Try.prog 48 #[.pointer (some ⟨r, 0, none⟩), .string s] w fun e w' => e = .returned (.tuple #[.int .i64 (i : Int), .bool true]) ∧ Below w.heap.size w w' :=
  (AtOf r s ls w h hv hl).mono fun e w' hp => by unfold AtPost at hp; rw [hg, hi] at hp; exact hp
theorem At_none {r : Nat} {s : ByteArray} {ls : List El} {w : World} (h : RefB w r ls) (hv : Up nm ls) (hl : ls.length ≤ 100000) (hg : get nm ls s = none) {i : Nat} (hi : ix nm ls s = i) :
    Calls Try.prog 48 #[.pointer (some ⟨r, 0, none⟩), .string s] w fun e w' => e = .returned (.tuple #[.int .i64 (i : Int), .bool false]) ∧ Below w.heap.size w w' :=
  (AtOf r s ls w h hv hl).mono fun e w' hp => by unfold AtPost at hp; rw [hg, hi] at hp; exact hp
set_option maxRecDepth 100000 in
set_option maxHeartbeats 1000000 in
theorem RefOfSome (r : Nat) (s : ByteArray) (ls : List El) (x : El) (w : World) (h : RefB w r ls) (hv : Up nm ls) (hl : ls.length ≤ 100000) (hg : get nm ls s = some x) :
    Calls Try.prog 25 #[.pointer (some ⟨r, 0, none⟩), .string s] w fun e w' => e = .returned (.tuple #[.agg #[.string x.f0, .int .i64 x.f1], .bool true]) ∧ Below w.heap.size w w' := by
  obtain ⟨i, hi⟩ : ∃ i, ix nm ls s = i := ⟨_, rfl⟩
  have HA := Aside0.mk (fun W (q : Below w.heap.size w W) => At_some (h.below q) hv hl hg hi)
  have HH := Aside0.mk h
  have hx := (ix_get hv hg).1
  rw [hi] at hx
  have hlt := (List.getElem?_eq_some_iff.1 hx).1
  have hlt' : (i : Int) < (ls.length : Int) := by omega
  have HXI := Aside0.mk hx
  have HB := Aside0.mk (Below.refl w.heap.size w)
  have huE := Try.underlying30
  clear h hv hg hx hi
  go_enter Try.func25, Try.ntmps25
  go_wp2_with (go_at_call 48; refine (HA.out _ (by repeat (first | (with_reducible first | exact HB.out | apply below_alloc | apply pw_below_drewN | apply below_drew1 | apply below_drew) | (refine Below.setCell ?_ (by first | (simp; done) | (simp; omega)) _)))).mono ?_; rintro e w1 ⟨rfl, hb⟩; have HX := Aside0.mk (elAt_call (elAt_new w z30) hb); have zx := blk_lt HX.out; have e0 := HX.out.cell 0; have e1 := HX.out.cell 1; have f0 := blk_frozen HX.out 0; have f1 := blk_frozen HX.out 1; simp only [cel, List.getElem?_cons_zero, List.getElem?_cons_succ] at e0 e1; replace HB := Aside0.mk (below_step (by repeat (first | (with_reducible first | exact HB.out | apply below_alloc | apply pw_below_drewN | apply below_drew1 | apply below_drew) | (refine Below.setCell ?_ (by first | (simp; done) | (simp; omega)) _))) hb); obtain ⟨A_, cap_, k0, hcap, hC⟩ := (HH.out.below HB.out).parts; obtain ⟨ad, rfl, q0, q1⟩ := at_T30 hC (i : Int) (by omega) (by omega); rw [rd_of HXI.out, Int.toNat_natCast] at q0 q1; clear hC hb)
  refine bodyPost_ret (v := .tuple #[.agg #[.string x.f0, .int .i64 x.f1], .bool true]) (by simp [results, Try.results25, go_sem, zx, e0, e1]) rfl ⟨rfl, ?_⟩
  have zz := HB.out.size
  exact (by repeat (first | (with_reducible first | exact HB.out | apply below_alloc | apply pw_below_drewN | apply below_drew1 | apply below_drew) | (refine Below.setCell ?_ (by first | (simp; done) | (simp; omega)) _)))
set_option maxRecDepth 100000 in
set_option maxHeartbeats 1000000 in
theorem RefOfNone (r : Nat) (s : ByteArray) (ls : List El) (w : World) (h : RefB w r ls) (hv : Up nm ls) (hl : ls.length ≤ 100000) (hg : get nm ls s = none) :
    Calls Try.prog 25 #[.pointer (some ⟨r, 0, none⟩), .string s] w fun e w' => e = .returned (.tuple #[.agg #[.string ⟨#[]⟩, .int .i64 0], .bool false]) ∧ Below w.heap.size w w' := by
  obtain ⟨i, hi⟩ : ∃ i, ix nm ls s = i := ⟨_, rfl⟩
  have HA := Aside0.mk (fun W (q : Below w.heap.size w W) => At_none (h.below q) hv hl hg hi)
  have HB := Aside0.mk (Below.refl w.heap.size w)
  have huE := Try.underlying30
  clear h hv hg hi
  go_enter Try.func25, Try.ntmps25
  go_wp2_with (go_at_call 48; refine (HA.out _ (by repeat (first | (with_reducible first | exact HB.out | apply below_alloc | apply pw_below_drewN | apply below_drew1 | apply below_drew) | (refine Below.setCell ?_ (by first | (simp; done) | (simp; omega)) _)))).mono ?_; rintro e w1 ⟨rfl, hb⟩; have HX := Aside0.mk (elAt_call (elAt_new w z30) hb); have zx := blk_lt HX.out; have e0 := HX.out.cell 0; have e1 := HX.out.cell 1; have f0 := blk_frozen HX.out 0; have f1 := blk_frozen HX.out 1; simp only [cel, List.getElem?_cons_zero, List.getElem?_cons_succ] at e0 e1; replace HB := Aside0.mk (below_step (by repeat (first | (with_reducible first | exact HB.out | apply below_alloc | apply pw_below_drewN | apply below_drew1 | apply below_drew) | (refine Below.setCell ?_ (by first | (simp; done) | (simp; omega)) _))) hb); clear hb)
  refine bodyPost_ret (v := .tuple #[.agg #[.string ⟨#[]⟩, .int .i64 0], .bool false]) (by simp [results, Try.results25, go_sem, zx, e0, e1]) rfl ⟨rfl, ?_⟩
  have zz := HB.out.size
  exact (by repeat (first | (with_reducible first | exact HB.out | apply below_alloc | apply pw_below_drewN | apply below_drew1 | apply below_drew) | (refine Below.setCell ?_ (by first | (simp; done) | (simp; omega)) _)))
theorem elAt_set2 {W : World} {B B' : Nat} {x : El} (h : ElAt W B x) (hne : B ≠ B') (u v : Value) : ElAt ((W.setCell ⟨B', 0, none⟩ u).setCell ⟨B', 1, none⟩ v) B x := by
  have e1 := Below.heap_setCell (W.setCell ⟨B', 0, none⟩ u) ⟨B', 1, none⟩ v B hne
  have e2 := Below.heap_setCell W ⟨B', 0, none⟩ u B hne
  exact (e1.trans e2).trans h
set_option maxRecDepth 100000 in
set_option maxHeartbeats 2000000 in
theorem RefFits (r : Nat) (ls : List El) (rate : Int) (w : World) (h : RefB w r ls) (hl : ls.length ≤ 100000) :
    Calls Try.prog 26 #[.pointer (some ⟨r, 0, none⟩), .int .i64 rate] w (FitsPost ls rate w) := by
  have HH := Aside0.mk h
  have HB := Aside0.mk (Below.refl w.heap.size w)
  have huE := Try.underlying30
  have hl0 : (ls.length : Int) ≤ 100000 := by omega
  clear h hl
  go_enter Try.func26, Try.ntmps26
  go_wp2_with fail
  go_loopw [7, 8] (fun v7 v8 wr => ∃ k : Nat, k ≤ ls.length ∧ v8 = .int .i64 (k : Int) ∧ v7 = .bool (fits (ls.take k) rate).2 ∧ Aside0 (ElAt wr (w.heap.size + 1) (fits (ls.take k) rate).1) ∧ Aside0 (ElAt wr w.heap.size z30) ∧ Aside0 (Below w.heap.size w wr)) (fun _ v8 _ => ls.length - (intOf v8).toNat)
  case atStart => exact ⟨0, by omega, rfl, rfl, ⟨elAt_at z30 (by simp)⟩, ⟨(elAt_new w z30).alloc _⟩, ⟨(by repeat (first | (with_reducible first | exact HB.out | apply below_alloc | apply pw_below_drewN | apply below_drew1 | apply below_drew) | (refine Below.setCell ?_ (by first | (simp; done) | (simp; omega)) _)))⟩⟩
  case round =>
    clear HB
    obtain ⟨k, hk, rfl, rfl, HX, HZ, HB⟩ := hrel
    obtain ⟨acc, hacc⟩ : ∃ acc, fits (ls.take k) rate = acc := ⟨_, rfl⟩
    rw [hacc] at HX ⊢
    obtain ⟨a1, i1⟩ := acc
    dsimp only at HX ⊢
    have e0 := HX.out.cell 0
    have e1 := HX.out.cell 1
    simp only [cel, List.getElem?_cons_zero, List.getElem?_cons_succ] at e0 e1
    have zx := blk_lt HX.out
    have f0 := blk_frozen HX.out 0
    have f1 := blk_frozen HX.out 1
    obtain ⟨A_, cap_, k0, hcap, hC⟩ := (HH.out.below HB.out).parts
    have HC := Aside0.mk hC
    clear hC
    by_cases hlt : k < ls.length
    · obtain ⟨p, hp⟩ : ∃ p, p = rd_T30 ls k := ⟨_, rfl⟩
      obtain ⟨ad, rfl, q0, q1⟩ := at_T30 HC.out (k : Int) (by omega) (by omega)
      rw [← hp, Int.toNat_natCast] at q0 q1
      have hlt' : (k : Int) < (ls.length : Int) := by omega
      have HS := Aside0.mk (fits_snoc hlt hp hacc)
      clear hp hacc
      by_cases c1 : rate ≤ p.f1
      · have d1 : decide (rate ≤ p.f1) = true := decide_eq_true c1
        cases i1 with
        | false =>
          have hF : fit1 rate (a1, false) p = (p, true) := by unfold fit1; rw [if_pos ⟨c1, Or.inl rfl⟩]
          replace hF := Aside0.mk hF
          clear c1
          go_wp2_with fail
          go_quiet (fail)
          go_wp2_with fail
          go_roundw
          case rel => exact ⟨k + 1, by omega, by go_num, by rw [HS.out, hF.out], ⟨by rw [HS.out, hF.out]; exact x_set HX.out p⟩, ⟨elAt_set2 HZ.out (by omega) _ _⟩, ⟨(by repeat (first | (with_reducible first | exact HB.out | apply below_alloc | apply pw_below_drewN | apply below_drew1 | apply below_drew) | (refine Below.setCell ?_ (by first | (simp; done) | (simp; omega)) _)))⟩⟩
          case measure => simp [intOf]; omega
        | true =>
          by_cases c2 : p.f1 < a1.f1
          · have d2 : decide (p.f1 < a1.f1) = true := decide_eq_true c2
            have hF : fit1 rate (a1, true) p = (p, true) := by unfold fit1; rw [if_pos ⟨c1, Or.inr c2⟩]
            replace hF := Aside0.mk hF
            clear c1 c2
            go_wp2_with fail
            go_quiet (fail)
            go_wp2_with fail
            go_roundw
            case rel => exact ⟨k + 1, by omega, by go_num, by rw [HS.out, hF.out], ⟨by rw [HS.out, hF.out]; exact x_set HX.out p⟩, ⟨elAt_set2 HZ.out (by omega) _ _⟩, ⟨(by repeat (first | (with_reducible first | exact HB.out | apply below_alloc | apply pw_below_drewN | apply below_drew1 | apply below_drew) | (refine Below.setCell ?_ (by first | (simp; done) | (simp; omega)) _)))⟩⟩
            case measure => simp [intOf]; omega
          · have d2 : decide (p.f1 < a1.f1) = false := decide_eq_false c2
            have hF : fit1 rate (a1, true) p = (a1, true) := by unfold fit1; rw [if_neg (by rintro ⟨_, h | h⟩; (· exact absurd h (by simp)); (· exact c2 h))]
            replace hF := Aside0.mk hF
            clear c1 c2
            go_wp2_with fail
            go_quiet (fail)
            go_wp2_with fail
            go_roundw
            case rel => exact ⟨k + 1, by omega, by go_num, by rw [HS.out, hF.out], ⟨by rw [HS.out, hF.out]; exact HX.out⟩, HZ, ⟨(by repeat (first | (with_reducible first | exact HB.out | apply below_alloc | apply pw_below_drewN | apply below_drew1 | apply below_drew) | (refine Below.setCell ?_ (by first | (simp; done) | (simp; omega)) _)))⟩⟩
            case measure => simp [intOf]; omega
      · have d1 : decide (rate ≤ p.f1) = false := decide_eq_false c1
        have hF : fit1 rate (a1, i1) p = (a1, i1) := by unfold fit1; rw [if_neg (fun h => c1 h.1)]
        replace hF := Aside0.mk hF
        clear c1
        go_wp2_with fail
        go_quiet (fail)
        go_wp2_with fail
        go_roundw
        case rel => exact ⟨k + 1, by omega, by go_num, by rw [HS.out, hF.out], ⟨by rw [HS.out, hF.out]; exact HX.out⟩, HZ, ⟨(by repeat (first | (with_reducible first | exact HB.out | apply below_alloc | apply pw_below_drewN | apply below_drew1 | apply below_drew) | (refine Below.setCell ?_ (by first | (simp; done) | (simp; omega)) _)))⟩⟩
        case measure => simp [intOf]; omega
    · have hk' : k = ls.length := by omega
      have hge : ¬ (k : Int) < (ls.length : Int) := by omega
      have HE := Aside0.mk hacc
      have HK' := Aside0.mk hk'
      clear hlt hacc hk'
      have zz := blk_lt HZ.out
      have z0 := HZ.out.cell 0
      have z1 := HZ.out.cell 1
      simp only [cel, List.getElem?_cons_zero, List.getElem?_cons_succ] at z0 z1
      have g0 := blk_frozen HZ.out 0
      have g1 := blk_frozen HZ.out 1
      go_wp2_with fail
      have hrw := HE.out
      rw [HK'.out, List.take_length] at hrw
      refine bodyPost_ret (v := .tuple #[.agg #[.string a1.f0, .int .i64 a1.f1], .bool i1]) (by simp [results, Try.results26, go_sem, zz, z0, z1]) rfl ⟨by rw [hrw], ?_⟩
      exact (by repeat (first | (with_reducible first | exact HB.out | apply below_alloc | apply pw_below_drewN | apply below_drew1 | apply below_drew) | (refine Below.setCell ?_ (by first | (simp; done) | (simp; omega)) _)))
end Go.Proofs.YtdahijckoblbgaaHVP
