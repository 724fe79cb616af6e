-- merged by merge.py: HRecRef HRecRef2
import Derived.Test.YtmgpaccgjafjeaaHRecBm
import Derived.Test.YtmgpaccgjafjeaaHRowR
import Derived.Deep.QuietTactic
import Derived.BigQuiet
import Derived.Deep.RegionLaw
import Derived.IntWalk
import Derived.Deep.DeepCutAuto
import Derived.Outline
namespace Go.Proofs.YtmgpaccgjafjeaaHVR
open Go.RowKit Go.Maps Go.Sort Go.Shelf Go.Lib Go.Proofs.YtmgpaccgjafjeaaW.PrintWords Go.Proofs.YtmgpaccgjafjeaaHW Go.Proofs.YtmgpaccgjafjeaaHG Go.Proofs.Ytmgpaccgjafjeaa.PG28 Go.Proofs.YtmgpaccgjafjeaaHT
set_option linter.unusedVariables false
set_option linter.unusedSimpArgs false
/-- The document's file: its block, its most, its row. -/
def RefB (w : World) (r : Nat) (most : Int) (ls : List El) : Prop := ∃ v, w.heap[r]? = some (.cells #[.int .i64 most, v] 73 (0, 0)) ∧ k24.R 24 w 0 (fun k => k ≠ r) v ls
theorem RefB.below {w w1 : World} {r : Nat} {most : Int} {ls : List El} (h : RefB w r most ls) (hb : Below w.heap.size w w1) : RefB w1 r most ls := by
  obtain ⟨v, h1, h2⟩ := h
  exact ⟨v, hw_below h1 hb, Kd.R_below h2 hb⟩
theorem RefB.parts {w : World} {r : Nat} {most : Int} {ls : List El} (h : RefB w r most ls) : ∃ A cap, w.heap[r]? = some (.cells #[.int .i64 most, .slice A ls.length cap] 73 (0, 0)) ∧ ls.length ≤ cap ∧ Kd.C k24 w A ls.length ls := by
  obtain ⟨v, h1, h2⟩ := h
  obtain ⟨A, cap, rfl, hcap, hC⟩ := Kd.R_reads h2
  exact ⟨A, cap, h1, hcap, hC⟩
theorem RefB.cells {w : World} {r : Nat} {most : Int} {A : Option Addr} {n c : Nat} (h : w.heap[r]? = some (.cells #[.int .i64 most, .slice A n c] 73 (0, 0))) : w.cell? ⟨r, 0, none⟩ = some (.int .i64 most) ∧ w.cell? ⟨r, 1, none⟩ = some (.slice A n c) := ⟨blk_cell h 0, blk_cell h 1⟩
theorem rd_of {ls : List El} {i : Nat} {p : El} (h : ls[i]? = some p) : rd_T24 ls (i : Int) = p := by
  obtain ⟨hl, e⟩ := List.getElem?_eq_some_iff.1 h
  unfold rd_T24
  rw [Int.toNat_natCast, List.getD_eq_getElem?_getD, h]; rfl
theorem isSome_at {ls : List El} (hv : Up nm ls) {s : ByteArray} {i : Nat} {p : El} (he : ix nm ls s = i) (hp : ls[i]? = some p) : (get nm ls s).isSome = decide (p.f0 = s) := by
  rw [get_ix hv, he, hp]
  show (if nm p = s then some p else none).isSome = _
  by_cases e : nm p = s
  · rw [if_pos e, show decide (p.f0 = s) = true from decide_eq_true e]; rfl
  · rw [if_neg e, show decide (p.f0 = s) = false from decide_eq_false e]; rfl
theorem isSome_end {ls : List El} (hv : Up nm ls) {s : ByteArray} {i : Nat} (he : ix nm ls s = i) (hp : ls.length ≤ i) : (get nm ls s).isSome = false := by
  rw [get_ix hv, he, List.getElem?_eq_none hp]; rfl
def AtPost (ls : List El) (s : ByteArray) (w : World) (e : Ending) (w' : World) : Prop := e = .returned (.tuple #[.int .i64 ((ix nm ls s : Nat) : Int), .bool (get nm ls s).isSome]) ∧ Below w.heap.size w w'
set_option maxRecDepth 100000 in
set_option maxHeartbeats 1000000 in
theorem AtOf (r : Nat) (most : Int) (s : ByteArray) (ls : List El) (w : World) (h : RefB w r most ls) (hv : Up nm ls) (hl : ls.length ≤ 100000) :
    Calls Try.prog 65 #[.pointer (some ⟨r, 0, none⟩), .string s] w (AtPost ls s w) := by
  obtain ⟨A, cap, hb0, hcap, hC⟩ := h.parts
  obtain ⟨k0, k1⟩ := RefB.cells hb0
  have HC := Aside0.mk hC
  have HB := Aside0.mk (Below.refl w.heap.size w)
  have HV := Aside0.mk hv
  clear hv hC h hb0
  go_enter Try.func65, Try.ntmps65
  go_wp2_with fail
  go_loop [6] (fun v6 => ∃ i : Nat, i ≤ ls.length ∧ v6 = .int .i64 (i : Int) ∧ Aside0 (∀ j, j < i → ∀ q, ls[j]? = some q → lt (nm q) s = true)) (fun v6 => ls.length - (intOf v6).toNat)
  case atStart => exact ⟨0, by omega, rfl, ⟨fun j hj => by omega⟩⟩
  case round =>
    obtain ⟨i, hi, rfl, HL⟩ := hrel
    by_cases hlt : i < ls.length
    · obtain ⟨p, hp⟩ : ∃ p, ls[i]? = some p := ⟨_, List.getElem?_eq_getElem hlt⟩
      have hlt' : (i : Int) < (ls.length : Int) := by omega
      obtain ⟨ad, rfl, q0, q1, q2, q3, q4⟩ := at_T24 HC.out (i : Int) (by omega) (by omega)
      rw [rd_of hp, Int.toNat_natCast] at q0 q1 q2 q3 q4
      have HP := Aside0.mk hp
      clear hp
      cases hc : lt (nm p) s with
      | true =>
        have d := less_of p.f0 s
        rw [show lt p.f0 s = true from hc] at d
        have HE := Aside0.mk hc
        clear hc
        go_wp2_with fail
        go_round
        case rel => exact ⟨i + 1, by omega, by go_num, ⟨fun j hj q hq => by
          by_cases ej : j = i
          · rw [ej, HP.out] at hq; rw [← Option.some.inj hq]; exact HE.out
          · exact HL.out j (by omega) q hq⟩⟩
        case measure => simp [intOf]; omega
      | false =>
        have d := less_of p.f0 s
        rw [show lt p.f0 s = false from hc] at d
        have HI := Aside0.mk (ix_of ls s i hi HL.out (fun x hx => by rw [HP.out] at hx; rw [← Option.some.inj hx]; exact hc))
        have HS := Aside0.mk (isSome_at HV.out HI.out HP.out)
        clear hc
        by_cases e : p.f0 = s
        · obtain ⟨e1, e2⟩ := str_eqs e
          have HE := Aside0.mk e
          clear e
          go_wp2_with fail
          repeat (go_quiet (fail); try go_wp2)
          first | go_ret | go_ret2
          refine ⟨?_, (by repeat (first | (with_reducible first | exact HB.out | apply below_alloc | apply pw_below_drewN | apply below_drew1 | apply below_drew) | (refine Below.setCell ?_ (by first | (simp; done) | (simp; omega)) _)))⟩
          rw [HI.out, HS.out, decide_eq_true HE.out]; rfl
        · obtain ⟨e1, e2⟩ := str_nes e
          have HE := Aside0.mk e
          clear e
          go_wp2_with fail
          repeat (go_quiet (fail); try go_wp2)
          first | go_ret | go_ret2
          refine ⟨?_, (by repeat (first | (with_reducible first | exact HB.out | apply below_alloc | apply pw_below_drewN | apply below_drew1 | apply below_drew) | (refine Below.setCell ?_ (by first | (simp; done) | (simp; omega)) _)))⟩
          rw [HI.out, HS.out, decide_eq_false HE.out]; rfl
    · have hge : ¬ (i : Int) < (ls.length : Int) := by omega
      have HI := Aside0.mk (ix_of ls s i hi HL.out (fun x hx => by have := (List.getElem?_eq_some_iff.1 hx).1; omega))
      have HS := Aside0.mk (isSome_end HV.out HI.out (by omega))
      go_wp2_with fail
      repeat (go_quiet (fail); try go_wp2)
      first | go_ret | go_ret2
      refine ⟨?_, (by repeat (first | (with_reducible first | exact HB.out | apply below_alloc | apply pw_below_drewN | apply below_drew1 | apply below_drew) | (refine Below.setCell ?_ (by first | (simp; done) | (simp; omega)) _)))⟩
      rw [HI.out, HS.out]; rfl
theorem AtIs {r : Nat} {most : Int} {s : ByteArray} {ls : List El} {w : World} (h : RefB w r most ls) (hv : Up nm ls) (hl : ls.length ≤ 100000) {i : Nat} (hi : ix nm ls s = i) {is : Bool} (hs : (get nm ls s).isSome = is) :
    Calls Try.prog 65 #[.pointer (some ⟨r, 0, none⟩), .string s] w fun e w' => e = .returned (.tuple #[.int .i64 (i : Int), .bool is]) ∧ Below w.heap.size w w' :=
  (AtOf r most s ls w h hv hl).mono fun e w' hp => by unfold AtPost at hp; rw [hs, hi] at hp; exact hp
set_option maxRecDepth 100000 in
set_option maxHeartbeats 1000000 in
theorem RefOfSome (r : Nat) (most : Int) (s : ByteArray) (ls : List El) (x : El) (w : World) (h : RefB w r most ls) (hv : Up nm ls) (hl : ls.length ≤ 100000) (hg : get nm ls s = some x) :
    Calls Try.prog 35 #[.pointer (some ⟨r, 0, none⟩), .string s] w fun e w' => e = .returned (.tuple #[.agg #[.string x.f0, .string x.f1, .string x.f2, .int .u32 x.f3, .bool x.f4], .bool true]) ∧ Below w.heap.size w w' := by
  obtain ⟨i, hi⟩ : ∃ i, ix nm ls s = i := ⟨_, rfl⟩
  have HA := Aside0.mk (fun W (q : Below w.heap.size w W) => AtIs (h.below q) hv hl hi (show (get nm ls s).isSome = true by rw [hg]; rfl))
  have HH := Aside0.mk h
  have hx := (ix_get hv hg).1
  rw [hi] at hx
  have hlt := (List.getElem?_eq_some_iff.1 hx).1
  have hlt' : (i : Int) < (ls.length : Int) := by omega
  have HXI := Aside0.mk hx
  have HB := Aside0.mk (Below.refl w.heap.size w)
  have huE := Try.underlying24
  clear h hv hg hx hi
  go_enter Try.func35, Try.ntmps35
  go_wp2_with (go_at_call 65; refine (HA.out _ (by repeat (first | (with_reducible first | exact HB.out | apply below_alloc | apply pw_below_drewN | apply below_drew1 | apply below_drew) | (refine Below.setCell ?_ (by first | (simp; done) | (simp; omega)) _)))).mono ?_; rintro e w1 ⟨rfl, hb⟩; have HX := Aside0.mk (elAt_call (elAt_new w z24) hb); have zx := blk_lt HX.out; obtain ⟨e0, e1, e2, e3, e4⟩ := elAt_cells HX.out; have f0 := blk_frozen HX.out 0; have f1 := blk_frozen HX.out 1; have f2 := blk_frozen HX.out 2; have f3 := blk_frozen HX.out 3; have f4 := blk_frozen HX.out 4; replace HB := Aside0.mk (below_step (by repeat (first | (with_reducible first | exact HB.out | apply below_alloc | apply pw_below_drewN | apply below_drew1 | apply below_drew) | (refine Below.setCell ?_ (by first | (simp; done) | (simp; omega)) _))) hb); obtain ⟨A_, cap_, hbl, hcap, hC⟩ := (HH.out.below HB.out).parts; obtain ⟨k0, k1⟩ := RefB.cells hbl; have zr := blk_lt hbl; obtain ⟨ad, rfl, q0, q1, q2, q3, q4⟩ := at_T24 hC (i : Int) (by omega) (by omega); rw [rd_of HXI.out, Int.toNat_natCast] at q0 q1 q2 q3 q4; clear hC hb hbl)
  refine bodyPost_ret (v := .tuple #[.agg #[.string x.f0, .string x.f1, .string x.f2, .int .u32 x.f3, .bool x.f4], .bool true]) (by simp [results, Try.results35, go_sem, zx, e0, e1, e2, e3, e4]) rfl ⟨rfl, ?_⟩
  have zz := HB.out.size
  exact (by repeat (first | (with_reducible first | exact HB.out | apply below_alloc | apply pw_below_drewN | apply below_drew1 | apply below_drew) | (refine Below.setCell ?_ (by first | (simp; done) | (simp; omega)) _)))
set_option maxRecDepth 100000 in
set_option maxHeartbeats 1000000 in
theorem RefOfNone (r : Nat) (most : Int) (s : ByteArray) (ls : List El) (w : World) (h : RefB w r most ls) (hv : Up nm ls) (hl : ls.length ≤ 100000) (hg : get nm ls s = none) :
    Calls Try.prog 35 #[.pointer (some ⟨r, 0, none⟩), .string s] w fun e w' => e = .returned (.tuple #[.agg #[.string ⟨#[]⟩, .string ⟨#[]⟩, .string ⟨#[]⟩, .int .u32 0, .bool false], .bool false]) ∧ Below w.heap.size w w' := by
  obtain ⟨i, hi⟩ : ∃ i, ix nm ls s = i := ⟨_, rfl⟩
  have HA := Aside0.mk (fun W (q : Below w.heap.size w W) => AtIs (h.below q) hv hl hi (show (get nm ls s).isSome = false by rw [hg]; rfl))
  have HB := Aside0.mk (Below.refl w.heap.size w)
  have huE := Try.underlying24
  clear h hv hg hi
  go_enter Try.func35, Try.ntmps35
  go_wp2_with (go_at_call 65; refine (HA.out _ (by repeat (first | (with_reducible first | exact HB.out | apply below_alloc | apply pw_below_drewN | apply below_drew1 | apply below_drew) | (refine Below.setCell ?_ (by first | (simp; done) | (simp; omega)) _)))).mono ?_; rintro e w1 ⟨rfl, hb⟩; have HX := Aside0.mk (elAt_call (elAt_new w z24) hb); have zx := blk_lt HX.out; obtain ⟨e0, e1, e2, e3, e4⟩ := elAt_cells HX.out; have f0 := blk_frozen HX.out 0; have f1 := blk_frozen HX.out 1; have f2 := blk_frozen HX.out 2; have f3 := blk_frozen HX.out 3; have f4 := blk_frozen HX.out 4; replace HB := Aside0.mk (below_step (by repeat (first | (with_reducible first | exact HB.out | apply below_alloc | apply pw_below_drewN | apply below_drew1 | apply below_drew) | (refine Below.setCell ?_ (by first | (simp; done) | (simp; omega)) _))) hb); clear hb)
  refine bodyPost_ret (v := .tuple #[.agg #[.string ⟨#[]⟩, .string ⟨#[]⟩, .string ⟨#[]⟩, .int .u32 0, .bool false], .bool false]) (by simp [results, Try.results35, go_sem, zx, e0, e1, e2, e3, e4]) rfl ⟨rfl, ?_⟩
  have zz := HB.out.size
  exact (by repeat (first | (with_reducible first | exact HB.out | apply below_alloc | apply pw_below_drewN | apply below_drew1 | apply below_drew) | (refine Below.setCell ?_ (by first | (simp; done) | (simp; omega)) _)))
theorem RefOf {r : Nat} {most : Int} {ls : List El} {s : ByteArray} {y : El} {is : Bool} {w : World} (h : RefB w r most ls) (hv : Up nm ls) (hl : ls.length ≤ 100000) (hy : ofP ls s = (y, is)) :
    Calls Try.prog 35 #[.pointer (some ⟨r, 0, none⟩), .string s] w fun e w' => e = .returned (.tuple #[.agg #[.string y.f0, .string y.f1, .string y.f2, .int .u32 y.f3, .bool y.f4], .bool is]) ∧ Below w.heap.size w w' := by
  unfold ofP at hy
  cases hg : get nm ls s with
  | some y_ => rw [hg] at hy; cases hy; exact RefOfSome r most s ls _ w h hv hl hg
  | none => rw [hg] at hy; cases hy; exact RefOfNone r most s ls w h hv hl hg
set_option maxRecDepth 100000 in
set_option maxHeartbeats 2000000 in
theorem RefAt {r : Nat} {most : Int} {ls : List El} {a : Int} {y : El} {is : Bool} {w : World} (h : RefB w r most ls) (hv : Valid ls) (hl : ls.length ≤ 100000) (hy : atP ls a = (y, is)) :
    Calls Try.prog 36 #[.pointer (some ⟨r, 0, none⟩), .int .u32 a] w fun e w' => e = .returned (.tuple #[.agg #[.string y.f0, .string y.f1, .string y.f2, .int .u32 y.f3, .bool y.f4], .bool is]) ∧ Below w.heap.size w w' := by
  obtain ⟨A, cap, hb0, hcap, hC⟩ := h.parts
  have HH := Aside0.mk hb0
  have HC0 := Aside0.mk hC
  have HY := Aside0.mk hy
  have HV := Aside0.mk hv
  have huE := Try.underlying24
  have hl0 : (ls.length : Int) ≤ 100000 := by omega
  clear h hb0 hC hy hv
  go_enter Try.func36, Try.ntmps36
  go_wp2_with fail
  go_loopw [6] (fun v6 wr => ∃ k : Nat, k ≤ ls.length ∧ v6 = .int .i64 (k : Int) ∧ Aside0 (∀ j, j < k → ∀ q, ls[j]? = some q → q.f3 ≠ a) ∧ Aside0 (ElAt wr w.heap.size z24) ∧ Aside0 (Below w.heap.size w wr)) (fun v6 _ => ls.length - (intOf v6).toNat)
  case atStart => exact ⟨0, by omega, rfl, ⟨fun j hj => by omega⟩, ⟨elAt_new w z24⟩, ⟨(Below.refl _ w).alloc (Nat.le_refl _) _⟩⟩
  case round =>
    obtain ⟨k, hk, rfl, HL, HX, HB⟩ := hrel
    have hbl := hw_below HH.out HB.out
    obtain ⟨k0, k1⟩ := RefB.cells hbl
    have zr := blk_lt hbl
    have HC := Aside0.mk (Kd.C_below HC0.out HB.out)
    have zx := blk_lt HX.out
    obtain ⟨e0, e1, e2, e3, e4⟩ := elAt_cells HX.out
    have f0 := blk_frozen HX.out 0
    have f1 := blk_frozen HX.out 1
    have f2 := blk_frozen HX.out 2
    have f3 := blk_frozen HX.out 3
    have f4 := blk_frozen HX.out 4
    clear hbl
    by_cases hlt : k < ls.length
    · obtain ⟨p, hp⟩ : ∃ p, ls[k]? = some p := ⟨_, List.getElem?_eq_getElem hlt⟩
      have hlt' : (k : Int) < (ls.length : Int) := by omega
      obtain ⟨ad, rfl, q0, q1, q2, q3, q4⟩ := at_T24 HC.out (k : Int) (by omega) (by omega)
      rw [rd_of hp, Int.toNat_natCast] at q0 q1 q2 q3 q4
      have HP := Aside0.mk hp
      clear hp
      by_cases c : p.f3 = a
      · have d : (p.f3 == a) = true := beq_iff_eq.mpr c
        have HE := Aside0.mk (show atP ls a = (p, true) by unfold atP; rw [← c, atA_mem HV.out.ad (List.mem_of_getElem? HP.out)])
        clear c
        go_wp2_with fail
        have E := HE.out
        rw [HY.out] at E
        obtain ⟨rfl, rfl⟩ := Prod.mk.inj E
        refine bodyPost_ret (v := .tuple #[.agg #[.string y.f0, .string y.f1, .string y.f2, .int .u32 y.f3, .bool y.f4], .bool true]) (by simp [results, Try.results36, go_sem, zx, e0, e1, e2, e3, e4]) rfl ⟨rfl, ?_⟩
        exact (by repeat (first | (with_reducible first | exact HB.out | apply below_alloc | apply pw_below_drewN | apply below_drew1 | apply below_drew) | (refine Below.setCell ?_ (by first | (simp; done) | (simp; omega)) _)))
      · have d : (p.f3 == a) = false := beq_eq_false_iff_ne.mpr c
        have HE := Aside0.mk c
        clear c
        go_wp2_with fail
        go_roundw
        case rel => exact ⟨k + 1, by omega, by go_num, ⟨fun j hj q hq => by
          by_cases ej : j = k
          · rw [ej, HP.out] at hq; rw [← Option.some.inj hq]; exact HE.out
          · exact HL.out j (by omega) q hq⟩, HX, HB⟩
        case measure => simp [intOf]; omega
    · have hge : ¬ (k : Int) < (ls.length : Int) := by omega
      have HE := Aside0.mk (show atP ls a = (z24, false) by
        unfold atP
        rw [atA_not (fun q hq => by obtain ⟨j, hj⟩ := List.mem_iff_getElem?.1 hq; exact HL.out j (by have := (List.getElem?_eq_some_iff.1 hj).1; omega) q hj)])
      go_wp2_with fail
      have E := HE.out
      rw [HY.out] at E
      obtain ⟨rfl, rfl⟩ := Prod.mk.inj E
      refine bodyPost_ret (v := .tuple #[.agg #[.string ⟨#[]⟩, .string ⟨#[]⟩, .string ⟨#[]⟩, .int .u32 0, .bool false], .bool false]) (by simp [results, Try.results36, go_sem, zx, e0, e1, e2, e3, e4]) rfl ⟨rfl, ?_⟩
      exact (by repeat (first | (with_reducible first | exact HB.out | apply below_alloc | apply pw_below_drewN | apply below_drew1 | apply below_drew) | (refine Below.setCell ?_ (by first | (simp; done) | (simp; omega)) _)))
theorem K_M {W : World} (base : Nat) (okp : Nat → Prop) (x : El) (cs : List Value) (h : k24.K W x cs) : k24.M W base okp x cs := by
  rw [k24_open h]
  exact k24_mkM _ _ _ x
theorem iEl : Try.prog.info? 24 = some ((Try.prog.info? 24).get (by kernel_rfl)) := by kernel_rfl
theorem iEl2 : ((Try.prog.info? 24).get (by kernel_rfl)).size = 5 := by kernel_rfl
theorem cutD (A0 : Option Addr) (c0 : Nat) (l : List El) (j : Nat) (hj : j ≤ l.length) (hc : l.length ≤ c0) : ∃ Ad, (∀ W : World, (Instr.slice 26 (.slice A0 l.length c0) (some (.int .i64 (j : Int))) none none).run Try.prog W = .ok (.slice Ad (l.length - j) (c0 - j)) W) ∧
    (∀ W : World, Kd.C k24 W A0 l.length l → Kd.C k24 W Ad (l.length - j) (l.drop j)) := by
  refine ⟨if c0 = j then A0 else A0.map (·.add (j * 5)), fun W => ?_, fun W h => ?_⟩
  · have := cut_from 26 24 .i64 Try.underlying26 iEl 5 iEl2 A0 l.length c0 (j : Int) (by omega) (by omega) W
    rw [Int.toNat_natCast] at this
    exact this
  · have := Kd.C_drop h hj hc
    rw [List.length_drop] at this
    exact this
theorem cutT (A0 : Option Addr) (c0 : Nat) (l : List El) (j : Nat) (hj : j ≤ l.length) (hc : l.length ≤ c0) : (∀ W : World, (Instr.slice 26 (.slice A0 l.length c0) none (some (.int .i64 (j : Int))) none).run Try.prog W = .ok (.slice A0 j c0) W) ∧
    (∀ W : World, Kd.C k24 W A0 l.length l → Kd.C k24 W A0 j (l.take j)) := by
  refine ⟨fun W => ?_, fun W h => ?_⟩
  · have := cut_to 26 24 .i64 Try.underlying26 iEl A0 l.length c0 (j : Int) (by omega) (by omega) hc W
    rw [Int.toNat_natCast] at this
    exact this
  · have := Kd.C_take h hj
    rwa [show (l.take j).length = j by rw [List.length_take]; omega] at this
/-- The new row is the file's: its block set. -/
theorem row_set {r : Nat} {most : Int} {u v : Value} {ls : List El} {w w5 : World} (hb : Below w.heap.size w w5) (hr : r < w.heap.size) (h1 : w5.heap[r]? = some (.cells #[.int .i64 most, u] 73 (0, 0)))
    (h2 : k24.R 24 w5 w.heap.size (fun k => w.heap.size ≤ k) v ls) : RefB (w5.setCell ⟨r, 1, none⟩ v) r most ls ∧ KB r w (w5.setCell ⟨r, 1, none⟩ v) := by
  refine ⟨⟨v, (blk_set h1 1 _).trans rfl, Kd.R_far (ok := fun k => k ≠ r) (Kd.R_mono (Kd.R_lower h2 (Nat.zero_le _)) (fun k hk => by show k ≠ r; omega)) (fun k hk => hk) _⟩, KB_set hb _⟩
theorem put_ix {ls : List El} (hu : Up nm ls) {x y : El} (hg : get nm ls x.f0 = some y) : putL ls x = ls.take (ix nm ls x.f0) ++ x :: ls.drop (ix nm ls x.f0 + 1) := by
  have hd := del_ix hu hg
  have hi : ix nm (del nm ls x.f0) x.f0 = ix nm ls x.f0 := by
    refine ix_of _ _ _ ?_ (fun j hj q hq => ?_) (fun q hq => ?_)
    · rw [hd, List.length_append, List.length_take]; have := ix_le (nm := nm) ls x.f0; omega
    · rw [hd, List.getElem?_append_left (by rw [List.length_take]; have := ix_le (nm := nm) ls x.f0; omega), List.getElem?_take_of_lt hj] at hq
      exact ix_below ls x.f0 j q hj hq
    · have hm := List.mem_of_getElem? hq
      have hl : (ls.take (ix nm ls x.f0)).length = ix nm ls x.f0 := by rw [List.length_take]; have := ix_le (nm := nm) ls x.f0; omega
      rw [hd, List.getElem?_append_right (by omega), hl, Nat.sub_self] at hq
      have : q ∈ ls.drop (ix nm ls x.f0 + 1) := List.mem_of_getElem? hq
      refine drop_ge hu x.f0 q ?_
      rw [← List.drop_drop] at this
      exact List.mem_of_mem_drop this
  unfold putL Go.Proofs.YtmgpaccgjafjeaaHT.ins
  rw [show nm x = x.f0 from rfl, hi, hd]
  have hl : (ls.take (ix nm ls x.f0)).length = ix nm ls x.f0 := by rw [List.length_take]; have := ix_le (nm := nm) ls x.f0; omega
  rw [List.take_append_of_le_length (by omega), List.take_of_length_le (by omega), List.drop_append_of_le_length (by omega), List.drop_of_length_le (by omega), List.nil_append]
theorem put_ix0 {ls : List El} {x : El} (hg : get nm ls x.f0 = none) : putL ls x = ls.take (ix nm ls x.f0) ++ x :: ls.drop (ix nm ls x.f0) := by
  unfold putL
  rw [del_none hg]; rfl
end Go.Proofs.YtmgpaccgjafjeaaHVR

namespace Go.Proofs.YtmgpaccgjafjeaaHVR
open Go.RowKit Go.Maps Go.Sort Go.Shelf Go.Lib Go.Proofs.YtmgpaccgjafjeaaW.PrintWords Go.Proofs.YtmgpaccgjafjeaaHW Go.Proofs.YtmgpaccgjafjeaaHG Go.Proofs.Ytmgpaccgjafjeaa.PG28 Go.Proofs.YtmgpaccgjafjeaaHT
set_option linter.unusedVariables false
set_option linter.unusedSimpArgs false
theorem clash_any {ls : List El} (hv : Valid ls) (x : El) : clash ls x = true ↔ ∃ y ∈ ls, y.f0 ≠ x.f0 ∧ y.f3 = x.f3 := by
  unfold clash
  cases h : atA ls x.f3 with
  | none => exact ⟨(fun h => by cases h), fun ⟨y, hy, _, e⟩ => absurd e (atA_none h y hy)⟩
  | some y =>
    obtain ⟨h1, h2⟩ := atA_some h
    refine ⟨fun e => ⟨y, h1, by simpa using e, h2⟩, fun ⟨z, hz, hn, e⟩ => ?_⟩
    rw [hv.ad y h1 z hz (by rw [h2, e])]
    simpa using hn
set_option maxRecDepth 100000 in
set_option maxHeartbeats 2000000 in
theorem RefPutArg (r : Nat) (most : Int) (ls : List El) (x : El) (w : World) (h : RefB w r most ls) (hv : Valid ls) (hc : okS x = false) :
    Calls Try.prog 32 #[.pointer (some ⟨r, 0, none⟩), .agg #[.string x.f0, .string x.f1, .string x.f2, .int .u32 x.f3, .bool x.f4]] w fun e w' => e = .returned (.int .i64 2) ∧ Below w.heap.size w w' := by
  obtain ⟨A, cap, hb0, hcap, hC⟩ := h.parts
  have HH := Aside0.mk hb0
  have HR := Aside0.mk h
  have HC0 := Aside0.mk hC
  have HV := Aside0.mk hv
  have huE := Try.underlying24
  have hzr := blk_lt hb0
  have HCAP := Aside0.mk hcap
  clear h hb0 hC hv hcap
  have HCK := Aside0.mk (show halyardref28_Check.f x.f0 x.f1 x.f2 x.f3 x.f4 = some 2 by rw [refCheck_ok, hc]; rfl)
  clear hc
  go_enter Try.func32, Try.ntmps32
  go_wp2_with (go_at_call 31; go_must (refine (halyardref28_Check.calls _ _ _ _ _ 2 _ HCK.out).mono ?_); go_must (rintro e w1 ⟨rfl, hb1⟩; have HX := Aside0.mk (elAt_call (elAt_new w x) hb1); have HB := Aside0.mk (below_step (show Below w.heap.size w (w.alloc (Obj.cells #[Value.string x.f0, Value.string x.f1, Value.string x.f2, Value.int IntKind.u32 x.f3, Value.bool x.f4] 24)) from (Below.refl _ w).alloc (Nat.le_refl _) _) hb1); (try clear k0 k1 zr fr); have hbl := hw_below HH.out HB.out; obtain ⟨k0, k1⟩ := RefB.cells hbl; have zr := blk_lt hbl; have fr := blk_frozen hbl 1; clear hbl; (try clear x0 x1 x2 x3 x4); obtain ⟨x0, x1, x2, x3, x4⟩ := elAt_cells HX.out); clear hb1)
  first | go_ret | go_ret2
  exact ⟨rfl, HB.out⟩
set_option maxRecDepth 100000 in
set_option maxHeartbeats 8000000 in
theorem RefPutHave (r : Nat) (most : Int) (ls : List El) (x : El) (w : World) (h : RefB w r most ls) (hv : Valid ls) (hl : ls.length ≤ 1000) (hc : okS x = true) (hcl : clash ls x = true) :
    Calls Try.prog 32 #[.pointer (some ⟨r, 0, none⟩), .agg #[.string x.f0, .string x.f1, .string x.f2, .int .u32 x.f3, .bool x.f4]] w fun e w' => e = .returned (.int .i64 9) ∧ Below w.heap.size w w' := by
  obtain ⟨A, cap, hb0, hcap, hC⟩ := h.parts
  have HH := Aside0.mk hb0
  have HR := Aside0.mk h
  have HC0 := Aside0.mk hC
  have HV := Aside0.mk hv
  have huE := Try.underlying24
  have hzr := blk_lt hb0
  have HCAP := Aside0.mk hcap
  clear h hb0 hC hv hcap
  have HCK := Aside0.mk (show halyardref28_Check.f x.f0 x.f1 x.f2 x.f3 x.f4 = some 0 by rw [refCheck_ok, hc]; rfl)
  have HCL := Aside0.mk ((clash_any HV.out x).1 hcl)
  clear hc hcl
  go_enter Try.func32, Try.ntmps32
  go_wp2_with (go_at_call 31; go_must (refine (halyardref28_Check.calls _ _ _ _ _ 0 _ HCK.out).mono ?_); go_must (rintro e w1 ⟨rfl, hb1⟩; have HX := Aside0.mk (elAt_call (elAt_new w x) hb1); have HB := Aside0.mk (below_step (show Below w.heap.size w (w.alloc (Obj.cells #[Value.string x.f0, Value.string x.f1, Value.string x.f2, Value.int IntKind.u32 x.f3, Value.bool x.f4] 24)) from (Below.refl _ w).alloc (Nat.le_refl _) _) hb1); (try clear k0 k1 zr fr); have hbl := hw_below HH.out HB.out; obtain ⟨k0, k1⟩ := RefB.cells hbl; have zr := blk_lt hbl; have fr := blk_frozen hbl 1; clear hbl; (try clear x0 x1 x2 x3 x4); obtain ⟨x0, x1, x2, x3, x4⟩ := elAt_cells HX.out); clear hb1)
  go_loopw [5] (fun v5 wr => ∃ k : Nat, k ≤ ls.length ∧ v5 = .int .i64 (k : Int) ∧ Aside0 (∀ j, j < k → ∀ q, ls[j]? = some q → ¬ (q.f0 ≠ x.f0 ∧ q.f3 = x.f3)) ∧ Aside0 (ElAt wr w.heap.size x) ∧ Aside0 (Below w.heap.size w wr)) (fun v5 _ => ls.length - (intOf v5).toNat)
  case atStart => exact ⟨0, by omega, rfl, ⟨fun j hj => by omega⟩, HX, HB⟩
  case round =>
    clear HX HB k0 k1 zr fr x0 x1 x2 x3 x4
    obtain ⟨k, hk, rfl, HL, HX, HB⟩ := hrel
    (try clear k0 k1 zr fr); have hbl := hw_below HH.out HB.out; obtain ⟨k0, k1⟩ := RefB.cells hbl; have zr := blk_lt hbl; have fr := blk_frozen hbl 1; clear hbl
    (try clear x0 x1 x2 x3 x4); obtain ⟨x0, x1, x2, x3, x4⟩ := elAt_cells HX.out
    by_cases hlt : k < ls.length
    · obtain ⟨p, hp⟩ : ∃ p, ls[k]? = some p := ⟨_, List.getElem?_eq_getElem hlt⟩
      have hlt' : (k : Int) < (ls.length : Int) := by omega
      obtain ⟨ad, rfl, q0, q1, q2, q3, q4⟩ := at_T24 (Kd.C_below HC0.out HB.out) (k : Int) (by omega) (by omega)
      rw [rd_of hp, Int.toNat_natCast] at q0 q1 q2 q3 q4
      have HP := Aside0.mk hp
      clear hp
      by_cases c : p.f0 = x.f0
      · obtain ⟨n1, n2⟩ := str_eqs c
        have HE := Aside0.mk (show ¬ (p.f0 ≠ x.f0 ∧ p.f3 = x.f3) from fun h => h.1 c)
        clear c
        go_wp2_with fail
        go_quiet (fail)
        go_wp2_with fail
        go_roundw
        case rel => exact ⟨k + 1, by omega, by go_num, ⟨fun j hj q hq => by
          by_cases ej : j = k
          · rw [ej, HP.out] at hq; rw [← Option.some.inj hq]; exact HE.out
          · exact HL.out j (by omega) q hq⟩, HX, ⟨pw_below_drewN HB.out nq⟩⟩
        case measure => simp [intOf]; omega
      · obtain ⟨n1, n2⟩ := str_nes c
        by_cases c2 : p.f3 = x.f3
        · have d : (p.f3 == x.f3) = true := beq_iff_eq.mpr c2
          clear c c2
          go_wp2_with fail
          go_quiet (fail)
          go_wp2_with fail
          first | go_ret | go_ret2
          exact ⟨rfl, pw_below_drewN HB.out nq⟩
        · have d : (p.f3 == x.f3) = false := beq_eq_false_iff_ne.mpr c2
          have HE := Aside0.mk (show ¬ (p.f0 ≠ x.f0 ∧ p.f3 = x.f3) from fun h => c2 h.2)
          clear c c2
          go_wp2_with fail
          go_quiet (fail)
          go_wp2_with fail
          go_roundw
          case rel => exact ⟨k + 1, by omega, by go_num, ⟨fun j hj q hq => by
            by_cases ej : j = k
            · rw [ej, HP.out] at hq; rw [← Option.some.inj hq]; exact HE.out
            · exact HL.out j (by omega) q hq⟩, HX, ⟨pw_below_drewN HB.out nq⟩⟩
          case measure => simp [intOf]; omega
    · have hge : ¬ (k : Int) < (ls.length : Int) := by omega
      exact absurd HCL.out (fun ⟨y, hy, hn, he⟩ => by
        obtain ⟨j, hj⟩ := List.mem_iff_getElem?.1 hy
        exact HL.out j (by have := (List.getElem?_eq_some_iff.1 hj).1; omega) y hj ⟨hn, he⟩)

set_option maxRecDepth 100000 in
set_option maxHeartbeats 8000000 in
theorem RefPutFull (r : Nat) (most : Int) (ls : List El) (x : El) (w : World) (h : RefB w r most ls) (hv : Valid ls) (hl : ls.length ≤ 1000) (hg : get nm ls x.f0 = none) (hm : most ≤ (ls.length : Int)) (hc : okS x = true) (hcl : clash ls x = false) :
    Calls Try.prog 32 #[.pointer (some ⟨r, 0, none⟩), .agg #[.string x.f0, .string x.f1, .string x.f2, .int .u32 x.f3, .bool x.f4]] w fun e w' => e = .returned (.int .i64 4) ∧ Below w.heap.size w w' := by
  obtain ⟨A, cap, hb0, hcap, hC⟩ := h.parts
  have HH := Aside0.mk hb0
  have HR := Aside0.mk h
  have HC0 := Aside0.mk hC
  have HV := Aside0.mk hv
  have huE := Try.underlying24
  have hzr := blk_lt hb0
  have HCAP := Aside0.mk hcap
  clear h hb0 hC hv hcap
  have HCK := Aside0.mk (show halyardref28_Check.f x.f0 x.f1 x.f2 x.f3 x.f4 = some 0 by rw [refCheck_ok, hc]; rfl)
  have HS := Aside0.mk (show (get nm ls x.f0).isSome = false by rw [hg]; rfl)
  clear hg
  have HCL := Aside0.mk hcl
  obtain ⟨i, hi⟩ : ∃ i, ix nm ls x.f0 = i := ⟨_, rfl⟩
  have hil : i ≤ ls.length := by rw [← hi]; exact ix_le ls x.f0
  have HI := Aside0.mk hi
  clear hi
  obtain ⟨CT, hct⟩ := cutT A cap ls i hil HCAP.out
  obtain ⟨Ad, CF, hcd⟩ := cutD A cap ls i hil HCAP.out
  have HCT := Aside0.mk hct
  have HCD := Aside0.mk hcd
  clear hct hcd
  clear hc hcl
  go_enter Try.func32, Try.ntmps32
  go_wp2_with (go_at_call 31; go_must (refine (halyardref28_Check.calls _ _ _ _ _ 0 _ HCK.out).mono ?_); go_must (rintro e w1 ⟨rfl, hb1⟩; have HX := Aside0.mk (elAt_call (elAt_new w x) hb1); have HB := Aside0.mk (below_step (show Below w.heap.size w (w.alloc (Obj.cells #[Value.string x.f0, Value.string x.f1, Value.string x.f2, Value.int IntKind.u32 x.f3, Value.bool x.f4] 24)) from (Below.refl _ w).alloc (Nat.le_refl _) _) hb1); (try clear k0 k1 zr fr); have hbl := hw_below HH.out HB.out; obtain ⟨k0, k1⟩ := RefB.cells hbl; have zr := blk_lt hbl; have fr := blk_frozen hbl 1; clear hbl; (try clear x0 x1 x2 x3 x4); obtain ⟨x0, x1, x2, x3, x4⟩ := elAt_cells HX.out); clear hb1)
  go_loopw [5] (fun v5 wr => ∃ k : Nat, k ≤ ls.length ∧ v5 = .int .i64 (k : Int) ∧ Aside0 (∀ j, j < k → ∀ q, ls[j]? = some q → ¬ (q.f0 ≠ x.f0 ∧ q.f3 = x.f3)) ∧ Aside0 (ElAt wr w.heap.size x) ∧ Aside0 (Below w.heap.size w wr)) (fun v5 _ => ls.length - (intOf v5).toNat)
  case atStart => exact ⟨0, by omega, rfl, ⟨fun j hj => by omega⟩, HX, HB⟩
  case round =>
    clear HX HB k0 k1 zr fr x0 x1 x2 x3 x4
    obtain ⟨k, hk, rfl, HL, HX, HB⟩ := hrel
    (try clear k0 k1 zr fr); have hbl := hw_below HH.out HB.out; obtain ⟨k0, k1⟩ := RefB.cells hbl; have zr := blk_lt hbl; have fr := blk_frozen hbl 1; clear hbl
    (try clear x0 x1 x2 x3 x4); obtain ⟨x0, x1, x2, x3, x4⟩ := elAt_cells HX.out
    by_cases hlt : k < ls.length
    · obtain ⟨p, hp⟩ : ∃ p, ls[k]? = some p := ⟨_, List.getElem?_eq_getElem hlt⟩
      have hlt' : (k : Int) < (ls.length : Int) := by omega
      obtain ⟨ad, rfl, q0, q1, q2, q3, q4⟩ := at_T24 (Kd.C_below HC0.out HB.out) (k : Int) (by omega) (by omega)
      rw [rd_of hp, Int.toNat_natCast] at q0 q1 q2 q3 q4
      have HP := Aside0.mk hp
      clear hp
      by_cases c : p.f0 = x.f0
      · obtain ⟨n1, n2⟩ := str_eqs c
        have HE := Aside0.mk (show ¬ (p.f0 ≠ x.f0 ∧ p.f3 = x.f3) from fun h => h.1 c)
        clear c
        go_wp2_with fail
        go_quiet (fail)
        go_wp2_with fail
        go_roundw
        case rel => exact ⟨k + 1, by omega, by go_num, ⟨fun j hj q hq => by
          by_cases ej : j = k
          · rw [ej, HP.out] at hq; rw [← Option.some.inj hq]; exact HE.out
          · exact HL.out j (by omega) q hq⟩, HX, ⟨pw_below_drewN HB.out nq⟩⟩
        case measure => simp [intOf]; omega
      · obtain ⟨n1, n2⟩ := str_nes c
        by_cases c2 : p.f3 = x.f3
        · have d : (p.f3 == x.f3) = true := beq_iff_eq.mpr c2
          exact absurd ((clash_any HV.out x).2 ⟨p, List.mem_of_getElem? HP.out, c, c2⟩) (by rw [HCL.out]; decide)
        · have d : (p.f3 == x.f3) = false := beq_eq_false_iff_ne.mpr c2
          have HE := Aside0.mk (show ¬ (p.f0 ≠ x.f0 ∧ p.f3 = x.f3) from fun h => c2 h.2)
          clear c c2
          go_wp2_with fail
          go_quiet (fail)
          go_wp2_with fail
          go_roundw
          case rel => exact ⟨k + 1, by omega, by go_num, ⟨fun j hj q hq => by
            by_cases ej : j = k
            · rw [ej, HP.out] at hq; rw [← Option.some.inj hq]; exact HE.out
            · exact HL.out j (by omega) q hq⟩, HX, ⟨pw_below_drewN HB.out nq⟩⟩
          case measure => simp [intOf]; omega
    · have hge : ¬ (k : Int) < (ls.length : Int) := by omega
      clear hge
      go_upto_region 9 with (go_at_call 65; go_must (refine (AtIs (HR.out.below HB.out) HV.out.up (by omega) HI.out HS.out).mono ?_); go_must (rintro e w2 ⟨rfl, hb1⟩; have HX2 := Aside0.mk (elAt_call HX.out hb1); replace HX := HX2; clear HX2; replace HB := Aside0.mk (below_step HB.out hb1); (try clear k0 k1 zr fr); have hbl := hw_below HH.out HB.out; obtain ⟨k0, k1⟩ := RefB.cells hbl; have zr := blk_lt hbl; have fr := blk_frozen hbl 1; clear hbl; (try clear x0 x1 x2 x3 x4); obtain ⟨x0, x1, x2, x3, x4⟩ := elAt_cells HX.out); clear hb1)
      go_quiet (fail)
      go_wp2_with fail
      first | go_ret | go_ret2
      exact ⟨rfl, pw_below_drewN HB.out nq⟩

set_option maxRecDepth 100000 in
set_option maxHeartbeats 8000000 in
theorem RefPutNew (r : Nat) (most : Int) (ls : List El) (x : El) (w : World) (h : RefB w r most ls) (hv : Valid ls) (hl : ls.length ≤ 1000) (hg : get nm ls x.f0 = none) (hm : (ls.length : Int) < most) (hc : okS x = true) (hcl : clash ls x = false) :
    Calls Try.prog 32 #[.pointer (some ⟨r, 0, none⟩), .agg #[.string x.f0, .string x.f1, .string x.f2, .int .u32 x.f3, .bool x.f4]] w fun e w' => e = .returned (.int .i64 0) ∧ RefB w' r most (putL ls x) ∧ KB r w w' := by
  obtain ⟨A, cap, hb0, hcap, hC⟩ := h.parts
  have HH := Aside0.mk hb0
  have HR := Aside0.mk h
  have HC0 := Aside0.mk hC
  have HV := Aside0.mk hv
  have huE := Try.underlying24
  have hzr := blk_lt hb0
  have HCAP := Aside0.mk hcap
  clear h hb0 hC hv hcap
  have HCK := Aside0.mk (show halyardref28_Check.f x.f0 x.f1 x.f2 x.f3 x.f4 = some 0 by rw [refCheck_ok, hc]; rfl)
  have HS := Aside0.mk (show (get nm ls x.f0).isSome = false by rw [hg]; rfl)
  have HG := Aside0.mk hg
  clear hg
  have HCL := Aside0.mk hcl
  obtain ⟨i, hi⟩ : ∃ i, ix nm ls x.f0 = i := ⟨_, rfl⟩
  have hil : i ≤ ls.length := by rw [← hi]; exact ix_le ls x.f0
  have HI := Aside0.mk hi
  clear hi
  obtain ⟨CT, hct⟩ := cutT A cap ls i hil HCAP.out
  obtain ⟨Ad, CF, hcd⟩ := cutD A cap ls i hil HCAP.out
  have HCT := Aside0.mk hct
  have HCD := Aside0.mk hcd
  clear hct hcd
  have hm2 : decide (most ≤ (ls.length : Int)) = false := decide_eq_false (by omega)
  clear hc hcl
  go_enter Try.func32, Try.ntmps32
  go_wp2_with (go_at_call 31; go_must (refine (halyardref28_Check.calls _ _ _ _ _ 0 _ HCK.out).mono ?_); go_must (rintro e w1 ⟨rfl, hb1⟩; have HX := Aside0.mk (elAt_call (elAt_new w x) hb1); have HB := Aside0.mk (below_step (show Below w.heap.size w (w.alloc (Obj.cells #[Value.string x.f0, Value.string x.f1, Value.string x.f2, Value.int IntKind.u32 x.f3, Value.bool x.f4] 24)) from (Below.refl _ w).alloc (Nat.le_refl _) _) hb1); (try clear k0 k1 zr fr); have hbl := hw_below HH.out HB.out; obtain ⟨k0, k1⟩ := RefB.cells hbl; have zr := blk_lt hbl; have fr := blk_frozen hbl 1; clear hbl; (try clear x0 x1 x2 x3 x4); obtain ⟨x0, x1, x2, x3, x4⟩ := elAt_cells HX.out); clear hb1)
  go_loopw [5] (fun v5 wr => ∃ k : Nat, k ≤ ls.length ∧ v5 = .int .i64 (k : Int) ∧ Aside0 (∀ j, j < k → ∀ q, ls[j]? = some q → ¬ (q.f0 ≠ x.f0 ∧ q.f3 = x.f3)) ∧ Aside0 (ElAt wr w.heap.size x) ∧ Aside0 (Below w.heap.size w wr)) (fun v5 _ => ls.length - (intOf v5).toNat)
  case atStart => exact ⟨0, by omega, rfl, ⟨fun j hj => by omega⟩, HX, HB⟩
  case round =>
    clear HX HB k0 k1 zr fr x0 x1 x2 x3 x4
    obtain ⟨k, hk, rfl, HL, HX, HB⟩ := hrel
    (try clear k0 k1 zr fr); have hbl := hw_below HH.out HB.out; obtain ⟨k0, k1⟩ := RefB.cells hbl; have zr := blk_lt hbl; have fr := blk_frozen hbl 1; clear hbl
    (try clear x0 x1 x2 x3 x4); obtain ⟨x0, x1, x2, x3, x4⟩ := elAt_cells HX.out
    by_cases hlt : k < ls.length
    · obtain ⟨p, hp⟩ : ∃ p, ls[k]? = some p := ⟨_, List.getElem?_eq_getElem hlt⟩
      have hlt' : (k : Int) < (ls.length : Int) := by omega
      obtain ⟨ad, rfl, q0, q1, q2, q3, q4⟩ := at_T24 (Kd.C_below HC0.out HB.out) (k : Int) (by omega) (by omega)
      rw [rd_of hp, Int.toNat_natCast] at q0 q1 q2 q3 q4
      have HP := Aside0.mk hp
      clear hp
      by_cases c : p.f0 = x.f0
      · obtain ⟨n1, n2⟩ := str_eqs c
        have HE := Aside0.mk (show ¬ (p.f0 ≠ x.f0 ∧ p.f3 = x.f3) from fun h => h.1 c)
        clear c
        go_wp2_with fail
        go_quiet (fail)
        go_wp2_with fail
        go_roundw
        case rel => exact ⟨k + 1, by omega, by go_num, ⟨fun j hj q hq => by
          by_cases ej : j = k
          · rw [ej, HP.out] at hq; rw [← Option.some.inj hq]; exact HE.out
          · exact HL.out j (by omega) q hq⟩, HX, ⟨pw_below_drewN HB.out nq⟩⟩
        case measure => simp [intOf]; omega
      · obtain ⟨n1, n2⟩ := str_nes c
        by_cases c2 : p.f3 = x.f3
        · have d : (p.f3 == x.f3) = true := beq_iff_eq.mpr c2
          exact absurd ((clash_any HV.out x).2 ⟨p, List.mem_of_getElem? HP.out, c, c2⟩) (by rw [HCL.out]; decide)
        · have d : (p.f3 == x.f3) = false := beq_eq_false_iff_ne.mpr c2
          have HE := Aside0.mk (show ¬ (p.f0 ≠ x.f0 ∧ p.f3 = x.f3) from fun h => c2 h.2)
          clear c c2
          go_wp2_with fail
          go_quiet (fail)
          go_wp2_with fail
          go_roundw
          case rel => exact ⟨k + 1, by omega, by go_num, ⟨fun j hj q hq => by
            by_cases ej : j = k
            · rw [ej, HP.out] at hq; rw [← Option.some.inj hq]; exact HE.out
            · exact HL.out j (by omega) q hq⟩, HX, ⟨pw_below_drewN HB.out nq⟩⟩
          case measure => simp [intOf]; omega
    · have hge : ¬ (k : Int) < (ls.length : Int) := by omega
      clear hge
      go_upto_region 9 with (go_at_call 65; go_must (refine (AtIs (HR.out.below HB.out) HV.out.up (by omega) HI.out HS.out).mono ?_); go_must (rintro e w2 ⟨rfl, hb1⟩; have HX2 := Aside0.mk (elAt_call HX.out hb1); replace HX := HX2; clear HX2; replace HB := Aside0.mk (below_step HB.out hb1); (try clear k0 k1 zr fr); have hbl := hw_below HH.out HB.out; obtain ⟨k0, k1⟩ := RefB.cells hbl; have zr := blk_lt hbl; have fr := blk_frozen hbl 1; clear hbl; (try clear x0 x1 x2 x3 x4); obtain ⟨x0, x1, x2, x3, x4⟩ := elAt_cells HX.out); clear hb1)
      go_quiet (fail)
      replace HB := Aside0.mk (pw_below_drewN HB.out nq)
      replace HX := Aside0.mk (show ElAt (w2.drewN nq) w.heap.size x from HX.out)
      generalize w2.drewN nq = w2 at HB HX ⊢
      (try clear k0 k1 zr fr); have hbl := hw_below HH.out HB.out; obtain ⟨k0, k1⟩ := RefB.cells hbl; have zr := blk_lt hbl; have fr := blk_frozen hbl 1; clear hbl
      (try clear x0 x1 x2 x3 x4); obtain ⟨x0, x1, x2, x3, x4⟩ := elAt_cells HX.out
      go_wp2_with (first
        | ((with_reducible refine gate_builtin (b := .append) (xs := #[.const (.slice none 0 0), .tmp 86]) rfl ?_); (at_builtin; go_must (refine Kd.R_append_rows k24 (Rr := k24.K _) (w0 := w) w.heap.size rfl (.const (.slice none 0 0)) (.tmp 86) 26 24 (.agg #[.string ⟨#[]⟩, .string ⟨#[]⟩, .string ⟨#[]⟩, .int .u32 0, .bool false]) 56 rfl Try.underlying26 infoEl rfl (show 0 < 5 by decide) (show 0 < 56 by decide) (.slice none 0 0) [] (ls.take i) A i cap (fun k => w.heap.size ≤ k) (fun _ => False) rfl rfl (Kd.R_nil _ _ _ _ _) (HCT.out _ (Kd.C_below HC0.out HB.out)) (fun x cs h => K_M _ _ x cs h) (fun _ h => h.elim) (fun k h => Nat.le_trans HB.out.size h) HB.out HB.out.size (by simp; omega) ?_); go_must (intro v1 w3 h1 h2 hg _; have HX2 := Aside0.mk (show ElAt w3 w.heap.size x from HX.out.kept hg (by simp [Value.ownBlock])); replace HX := HX2; clear HX2; have H1 := Aside0.mk (show k24.R 24 w3 w.heap.size (fun k => w.heap.size ≤ k) v1 (ls.take i) by simpa using h1); replace HB := Aside0.mk h2; (try clear k0 k1 zr fr); have hbl := hw_below HH.out HB.out; obtain ⟨k0, k1⟩ := RefB.cells hbl; have zr := blk_lt hbl; have fr := blk_frozen hbl 1; clear hbl; (try clear x0 x1 x2 x3 x4); obtain ⟨x0, x1, x2, x3, x4⟩ := elAt_cells HX.out); clear h1 h2 hg))
        | ((with_reducible refine gate_builtin (b := .append) (xs := #[.tmp 88, .tmp 90]) rfl ?_); (at_builtin; go_must (refine Kd.R_append k24 (w0 := w) w.heap.size rfl (.tmp 88) (.tmp 90) 26 24 (.agg #[.string ⟨#[]⟩, .string ⟨#[]⟩, .string ⟨#[]⟩, .int .u32 0, .bool false]) 56 rfl Try.underlying26 infoEl rfl (show 0 < 5 by decide) (show 0 < 56 by decide) v1 (ls.take i) x [.string x.f0, .string x.f1, .string x.f2, .int .u32 x.f3, .bool x.f4] (fun k => w.heap.size ≤ k) (fun _ => False) rfl rfl (k24_mkM _ _ _ x) (fun _ h => h.elim) (fun k h => Nat.le_trans HB.out.size h) H1.out HB.out HB.out.size (by simp; omega) ?_); go_must (intro v2 w4 h1 h2 _ _; have H2 := Aside0.mk h1; replace HB := Aside0.mk h2; clear HX x0 x1 x2 x3 x4; (try clear k0 k1 zr fr); have hbl := hw_below HH.out HB.out; obtain ⟨k0, k1⟩ := RefB.cells hbl; have zr := blk_lt hbl; have fr := blk_frozen hbl 1; clear hbl); clear h1 h2))
        | ((with_reducible refine gate_builtin (b := .append) (xs := #[.tmp 93, .tmp 94]) rfl ?_); (at_builtin; go_must (refine Kd.R_append_rows k24 (Rr := k24.K _) (w0 := w) w.heap.size rfl (.tmp 93) (.tmp 94) 26 24 (.agg #[.string ⟨#[]⟩, .string ⟨#[]⟩, .string ⟨#[]⟩, .int .u32 0, .bool false]) 56 rfl Try.underlying26 infoEl rfl (show 0 < 5 by decide) (show 0 < 56 by decide) v2 (ls.take i ++ [x]) (ls.drop i) Ad (ls.length - i) (cap - i) (fun k => w.heap.size ≤ k) (fun _ => False) rfl rfl H2.out (HCD.out _ (Kd.C_below HC0.out HB.out)) (fun x cs h => K_M _ _ x cs h) (fun _ h => h.elim) (fun k h => Nat.le_trans HB.out.size h) HB.out HB.out.size (by simp; omega) ?_); go_must (intro v3 w5 h1 h2 _ _; obtain ⟨A3, c3, hv3, _, _⟩ := Kd.R_reads h1; obtain ⟨n3, hn3⟩ : ∃ n, (ls.take i ++ [x] ++ ls.drop i).length = n := ⟨_, rfl⟩; rw [hn3] at hv3; clear hn3; subst hv3; have H3 := Aside0.mk h1; replace HB := Aside0.mk h2; (try clear k0 k1 zr fr); have hbl := hw_below HH.out HB.out; obtain ⟨k0, k1⟩ := RefB.cells hbl; have zr := blk_lt hbl; have fr := blk_frozen hbl 1; clear hbl); clear h1 h2)))
      first | go_ret | go_ret2
      have E := row_set HB.out hzr (hw_below HH.out HB.out) H3.out
      rw [show ls.take i ++ [x] ++ ls.drop i = putL ls x by rw [put_ix0 HG.out]; rw [HI.out]; simp] at E
      exact ⟨rfl, E.1, E.2⟩

set_option maxRecDepth 100000 in
set_option maxHeartbeats 8000000 in
theorem RefPutOld (r : Nat) (most : Int) (ls : List El) (x : El) (w : World) (h : RefB w r most ls) (hv : Valid ls) (hl : ls.length ≤ 1000) (y : El) (hg : get nm ls x.f0 = some y) (hc : okS x = true) (hcl : clash ls x = false) :
    Calls Try.prog 32 #[.pointer (some ⟨r, 0, none⟩), .agg #[.string x.f0, .string x.f1, .string x.f2, .int .u32 x.f3, .bool x.f4]] w fun e w' => e = .returned (.int .i64 0) ∧ RefB w' r most (putL ls x) ∧ KB r w w' := by
  have hv0 := hv.up
  obtain ⟨A, cap, hb0, hcap, hC⟩ := h.parts
  have HH := Aside0.mk hb0
  have HR := Aside0.mk h
  have HC0 := Aside0.mk hC
  have HV := Aside0.mk hv
  have huE := Try.underlying24
  have hzr := blk_lt hb0
  have HCAP := Aside0.mk hcap
  clear h hb0 hC hv hcap
  have HCK := Aside0.mk (show halyardref28_Check.f x.f0 x.f1 x.f2 x.f3 x.f4 = some 0 by rw [refCheck_ok, hc]; rfl)
  have HS := Aside0.mk (show (get nm ls x.f0).isSome = true by rw [hg]; rfl)
  have HG := Aside0.mk hg
  have hx := (ix_get hv0 hg).1
  clear hg
  have HCL := Aside0.mk hcl
  obtain ⟨i, hi⟩ : ∃ i, ix nm ls x.f0 = i := ⟨_, rfl⟩
  have hil : i ≤ ls.length := by rw [← hi]; exact ix_le ls x.f0
  have HI := Aside0.mk hi
  clear hi
  obtain ⟨CT, hct⟩ := cutT A cap ls i hil HCAP.out
  obtain ⟨Ad, CF, hcd⟩ := cutD A cap ls i hil HCAP.out
  have HCT := Aside0.mk hct
  have HCD := Aside0.mk hcd
  clear hct hcd
  rw [HI.out] at hx
  have hlt1 := (List.getElem?_eq_some_iff.1 hx).1
  have i1 : IntKind.i64.wrap ((i : Int) + 1) = ((i + 1 : Nat) : Int) := by rw [IntWalk.i64_in _ (by omega)]; omega
  obtain ⟨Ad1, CF1, hcd1⟩ := cutD A cap ls (i + 1) (by omega) HCAP.out
  rw [show (((i + 1 : Nat) : Int)) = (i : Int) + 1 by omega] at CF1
  have HCD1 := Aside0.mk hcd1
  clear hcd1 hx i1
  clear hc hcl
  go_enter Try.func32, Try.ntmps32
  go_wp2_with (go_at_call 31; go_must (refine (halyardref28_Check.calls _ _ _ _ _ 0 _ HCK.out).mono ?_); go_must (rintro e w1 ⟨rfl, hb1⟩; have HX := Aside0.mk (elAt_call (elAt_new w x) hb1); have HB := Aside0.mk (below_step (show Below w.heap.size w (w.alloc (Obj.cells #[Value.string x.f0, Value.string x.f1, Value.string x.f2, Value.int IntKind.u32 x.f3, Value.bool x.f4] 24)) from (Below.refl _ w).alloc (Nat.le_refl _) _) hb1); (try clear k0 k1 zr fr); have hbl := hw_below HH.out HB.out; obtain ⟨k0, k1⟩ := RefB.cells hbl; have zr := blk_lt hbl; have fr := blk_frozen hbl 1; clear hbl; (try clear x0 x1 x2 x3 x4); obtain ⟨x0, x1, x2, x3, x4⟩ := elAt_cells HX.out); clear hb1)
  go_loopw [5] (fun v5 wr => ∃ k : Nat, k ≤ ls.length ∧ v5 = .int .i64 (k : Int) ∧ Aside0 (∀ j, j < k → ∀ q, ls[j]? = some q → ¬ (q.f0 ≠ x.f0 ∧ q.f3 = x.f3)) ∧ Aside0 (ElAt wr w.heap.size x) ∧ Aside0 (Below w.heap.size w wr)) (fun v5 _ => ls.length - (intOf v5).toNat)
  case atStart => exact ⟨0, by omega, rfl, ⟨fun j hj => by omega⟩, HX, HB⟩
  case round =>
    clear HX HB k0 k1 zr fr x0 x1 x2 x3 x4
    obtain ⟨k, hk, rfl, HL, HX, HB⟩ := hrel
    (try clear k0 k1 zr fr); have hbl := hw_below HH.out HB.out; obtain ⟨k0, k1⟩ := RefB.cells hbl; have zr := blk_lt hbl; have fr := blk_frozen hbl 1; clear hbl
    (try clear x0 x1 x2 x3 x4); obtain ⟨x0, x1, x2, x3, x4⟩ := elAt_cells HX.out
    by_cases hlt : k < ls.length
    · obtain ⟨p, hp⟩ : ∃ p, ls[k]? = some p := ⟨_, List.getElem?_eq_getElem hlt⟩
      have hlt' : (k : Int) < (ls.length : Int) := by omega
      obtain ⟨ad, rfl, q0, q1, q2, q3, q4⟩ := at_T24 (Kd.C_below HC0.out HB.out) (k : Int) (by omega) (by omega)
      rw [rd_of hp, Int.toNat_natCast] at q0 q1 q2 q3 q4
      have HP := Aside0.mk hp
      clear hp
      by_cases c : p.f0 = x.f0
      · obtain ⟨n1, n2⟩ := str_eqs c
        have HE := Aside0.mk (show ¬ (p.f0 ≠ x.f0 ∧ p.f3 = x.f3) from fun h => h.1 c)
        clear c
        go_wp2_with fail
        go_quiet (fail)
        go_wp2_with fail
        go_roundw
        case rel => exact ⟨k + 1, by omega, by go_num, ⟨fun j hj q hq => by
          by_cases ej : j = k
          · rw [ej, HP.out] at hq; rw [← Option.some.inj hq]; exact HE.out
          · exact HL.out j (by omega) q hq⟩, HX, ⟨pw_below_drewN HB.out nq⟩⟩
        case measure => simp [intOf]; omega
      · obtain ⟨n1, n2⟩ := str_nes c
        by_cases c2 : p.f3 = x.f3
        · have d : (p.f3 == x.f3) = true := beq_iff_eq.mpr c2
          exact absurd ((clash_any HV.out x).2 ⟨p, List.mem_of_getElem? HP.out, c, c2⟩) (by rw [HCL.out]; decide)
        · have d : (p.f3 == x.f3) = false := beq_eq_false_iff_ne.mpr c2
          have HE := Aside0.mk (show ¬ (p.f0 ≠ x.f0 ∧ p.f3 = x.f3) from fun h => c2 h.2)
          clear c c2
          go_wp2_with fail
          go_quiet (fail)
          go_wp2_with fail
          go_roundw
          case rel => exact ⟨k + 1, by omega, by go_num, ⟨fun j hj q hq => by
            by_cases ej : j = k
            · rw [ej, HP.out] at hq; rw [← Option.some.inj hq]; exact HE.out
            · exact HL.out j (by omega) q hq⟩, HX, ⟨pw_below_drewN HB.out nq⟩⟩
          case measure => simp [intOf]; omega
    · have hge : ¬ (k : Int) < (ls.length : Int) := by omega
      clear hge
      go_upto_region 9 with (go_at_call 65; go_must (refine (AtIs (HR.out.below HB.out) HV.out.up (by omega) HI.out HS.out).mono ?_); go_must (rintro e w2 ⟨rfl, hb1⟩; have HX2 := Aside0.mk (elAt_call HX.out hb1); replace HX := HX2; clear HX2; replace HB := Aside0.mk (below_step HB.out hb1); (try clear k0 k1 zr fr); have hbl := hw_below HH.out HB.out; obtain ⟨k0, k1⟩ := RefB.cells hbl; have zr := blk_lt hbl; have fr := blk_frozen hbl 1; clear hbl; (try clear x0 x1 x2 x3 x4); obtain ⟨x0, x1, x2, x3, x4⟩ := elAt_cells HX.out); clear hb1)
      go_quiet (fail)
      replace HB := Aside0.mk (pw_below_drewN HB.out nq)
      replace HX := Aside0.mk (show ElAt (w2.drewN nq) w.heap.size x from HX.out)
      generalize w2.drewN nq = w2 at HB HX ⊢
      (try clear k0 k1 zr fr); have hbl := hw_below HH.out HB.out; obtain ⟨k0, k1⟩ := RefB.cells hbl; have zr := blk_lt hbl; have fr := blk_frozen hbl 1; clear hbl
      (try clear x0 x1 x2 x3 x4); obtain ⟨x0, x1, x2, x3, x4⟩ := elAt_cells HX.out
      go_wp2_with (first
        | ((with_reducible refine gate_builtin (b := .append) (xs := #[.const (.slice none 0 0), .tmp 86]) rfl ?_); (at_builtin; go_must (refine Kd.R_append_rows k24 (Rr := k24.K _) (w0 := w) w.heap.size rfl (.const (.slice none 0 0)) (.tmp 86) 26 24 (.agg #[.string ⟨#[]⟩, .string ⟨#[]⟩, .string ⟨#[]⟩, .int .u32 0, .bool false]) 56 rfl Try.underlying26 infoEl rfl (show 0 < 5 by decide) (show 0 < 56 by decide) (.slice none 0 0) [] (ls.take i) A i cap (fun k => w.heap.size ≤ k) (fun _ => False) rfl rfl (Kd.R_nil _ _ _ _ _) (HCT.out _ (Kd.C_below HC0.out HB.out)) (fun x cs h => K_M _ _ x cs h) (fun _ h => h.elim) (fun k h => Nat.le_trans HB.out.size h) HB.out HB.out.size (by simp; omega) ?_); go_must (intro v1 w3 h1 h2 hg _; have HX2 := Aside0.mk (show ElAt w3 w.heap.size x from HX.out.kept hg (by simp [Value.ownBlock])); replace HX := HX2; clear HX2; have H1 := Aside0.mk (show k24.R 24 w3 w.heap.size (fun k => w.heap.size ≤ k) v1 (ls.take i) by simpa using h1); replace HB := Aside0.mk h2; (try clear k0 k1 zr fr); have hbl := hw_below HH.out HB.out; obtain ⟨k0, k1⟩ := RefB.cells hbl; have zr := blk_lt hbl; have fr := blk_frozen hbl 1; clear hbl; (try clear x0 x1 x2 x3 x4); obtain ⟨x0, x1, x2, x3, x4⟩ := elAt_cells HX.out); clear h1 h2 hg))
        | ((with_reducible refine gate_builtin (b := .append) (xs := #[.tmp 88, .tmp 90]) rfl ?_); (at_builtin; go_must (refine Kd.R_append k24 (w0 := w) w.heap.size rfl (.tmp 88) (.tmp 90) 26 24 (.agg #[.string ⟨#[]⟩, .string ⟨#[]⟩, .string ⟨#[]⟩, .int .u32 0, .bool false]) 56 rfl Try.underlying26 infoEl rfl (show 0 < 5 by decide) (show 0 < 56 by decide) v1 (ls.take i) x [.string x.f0, .string x.f1, .string x.f2, .int .u32 x.f3, .bool x.f4] (fun k => w.heap.size ≤ k) (fun _ => False) rfl rfl (k24_mkM _ _ _ x) (fun _ h => h.elim) (fun k h => Nat.le_trans HB.out.size h) H1.out HB.out HB.out.size (by simp; omega) ?_); go_must (intro v2 w4 h1 h2 _ _; have H2 := Aside0.mk h1; replace HB := Aside0.mk h2; clear HX x0 x1 x2 x3 x4; (try clear k0 k1 zr fr); have hbl := hw_below HH.out HB.out; obtain ⟨k0, k1⟩ := RefB.cells hbl; have zr := blk_lt hbl; have fr := blk_frozen hbl 1; clear hbl); clear h1 h2))
        | ((with_reducible refine gate_builtin (b := .append) (xs := #[.tmp 93, .tmp 94]) rfl ?_); (at_builtin; go_must (refine Kd.R_append_rows k24 (Rr := k24.K _) (w0 := w) w.heap.size rfl (.tmp 93) (.tmp 94) 26 24 (.agg #[.string ⟨#[]⟩, .string ⟨#[]⟩, .string ⟨#[]⟩, .int .u32 0, .bool false]) 56 rfl Try.underlying26 infoEl rfl (show 0 < 5 by decide) (show 0 < 56 by decide) v2 (ls.take i ++ [x]) (ls.drop (i + 1)) Ad1 (ls.length - (i + 1)) (cap - (i + 1)) (fun k => w.heap.size ≤ k) (fun _ => False) rfl rfl H2.out (HCD1.out _ (Kd.C_below HC0.out HB.out)) (fun x cs h => K_M _ _ x cs h) (fun _ h => h.elim) (fun k h => Nat.le_trans HB.out.size h) HB.out HB.out.size (by simp; omega) ?_); go_must (intro v3 w5 h1 h2 _ _; obtain ⟨A3, c3, hv3, _, _⟩ := Kd.R_reads h1; obtain ⟨n3, hn3⟩ : ∃ n, (ls.take i ++ [x] ++ ls.drop (i + 1)).length = n := ⟨_, rfl⟩; rw [hn3] at hv3; clear hn3; subst hv3; have H3 := Aside0.mk h1; replace HB := Aside0.mk h2; (try clear k0 k1 zr fr); have hbl := hw_below HH.out HB.out; obtain ⟨k0, k1⟩ := RefB.cells hbl; have zr := blk_lt hbl; have fr := blk_frozen hbl 1; clear hbl); clear h1 h2)))
      first | go_ret | go_ret2
      have E := row_set HB.out hzr (hw_below HH.out HB.out) H3.out
      rw [show ls.take i ++ [x] ++ ls.drop (i + 1) = putL ls x by rw [put_ix HV.out.up HG.out]; rw [HI.out]; simp] at E
      exact ⟨rfl, E.1, E.2⟩

set_option maxRecDepth 100000 in
set_option maxHeartbeats 4000000 in
theorem RefDelYes (r : Nat) (most : Int) (ls : List El) (s : ByteArray) (y : El) (w : World) (h : RefB w r most ls) (hv : Valid ls) (hl : ls.length ≤ 1000) (hg : get nm ls s = some y) :
    Calls Try.prog 33 #[.pointer (some ⟨r, 0, none⟩), .string s] w fun e w' => e = .returned (.int .i64 0) ∧ RefB w' r most (del nm ls s) ∧ KB r w w' := by
  have hv0 := hv.up
  obtain ⟨A, cap, hb0, hcap, hC⟩ := h.parts
  have HH := Aside0.mk hb0
  have HR := Aside0.mk h
  have HC0 := Aside0.mk hC
  have HV := Aside0.mk hv
  have huE := Try.underlying24
  have hzr := blk_lt hb0
  have HCAP := Aside0.mk hcap
  clear h hb0 hC hv hcap
  have HS := Aside0.mk (show (get nm ls s).isSome = true by rw [hg]; rfl)
  have hx := (ix_get hv0 hg).1
  have hd := del_ix hv0 hg
  obtain ⟨i, hi⟩ : ∃ i, ix nm ls s = i := ⟨_, rfl⟩
  rw [hi] at hx hd
  have HI := Aside0.mk hi
  have HD := Aside0.mk hd
  have hlt1 := (List.getElem?_eq_some_iff.1 hx).1
  have hil : i ≤ ls.length := by omega
  have i1 : IntKind.i64.wrap ((i : Int) + 1) = (i : Int) + 1 := by rw [IntWalk.i64_in _ (by omega)]
  obtain ⟨CT, hct⟩ := cutT A cap ls i hil HCAP.out
  obtain ⟨Ad1, CF1, hcd1⟩ := cutD A cap ls (i + 1) (by omega) HCAP.out
  rw [show (((i + 1 : Nat) : Int)) = (i : Int) + 1 by omega] at CF1
  have HCT := Aside0.mk hct
  have HCD1 := Aside0.mk hcd1
  have hca : ls.length ≤ cap := HCAP.out
  have j1 : (i : Int) + 1 ≤ (ls.length : Int) := by omega
  have j2 : (i : Int) ≤ (cap : Int) := by omega
  have j3 : (0 : Int) ≤ (i : Int) + 1 := by omega
  clear hg hx hd hi hct hcd1
  go_enter Try.func33, Try.ntmps33
  go_upto_region 4 with (go_at_call 65; go_must (refine (AtIs HR.out HV.out.up (by omega) HI.out HS.out).mono ?_); go_must (rintro e w1 ⟨rfl, hb1⟩; have HB := Aside0.mk hb1; (try clear k0 k1 zr fr); have hbl := hw_below HH.out HB.out; obtain ⟨k0, k1⟩ := RefB.cells hbl; have zr := blk_lt hbl; have fr := blk_frozen hbl 1; clear hbl); clear hb1)
  have HBd := Aside0.mk (show Below w.heap.size w (World.drew w1) from below_drew HB.out)
  go_region_law (first
    | (refine Kd.R_append_rows_step k24 (Rr := k24.K _) (w0 := w) w.heap.size (by simp [Region.wanted]) (.const (.slice none 0 0)) (.tmp 21) 26 24 (.agg #[.string ⟨#[]⟩, .string ⟨#[]⟩, .string ⟨#[]⟩, .int .u32 0, .bool false]) 56 rfl Try.underlying26 infoEl rfl (show 0 < 5 by decide) (show 0 < 56 by decide) (.slice none 0 0) [] (ls.take i) A i cap (fun k => w.heap.size ≤ k) (fun _ => False) rfl rfl (Kd.R_nil _ _ _ _ _) (HCT.out _ (Kd.C_below HC0.out HBd.out)) (fun x cs h => K_M _ _ x cs h) (fun _ h => h.elim) (fun k h => Nat.le_trans HBd.out.size h) HBd.out HBd.out.size (by simp; omega) ?_; intro v1 w3 h1 h2 _ _; have H1 := Aside0.mk (show k24.R 24 w3 w.heap.size (fun k => w.heap.size ≤ k) v1 (ls.take i) by simpa using h1); have HB3 := Aside0.mk h2; (try clear k0 k1 zr fr); have hbl := hw_below HH.out HB3.out; obtain ⟨k0, k1⟩ := RefB.cells hbl; have zr := blk_lt hbl; have fr := blk_frozen hbl 1; clear hbl; clear h1 h2)
    | (refine Kd.R_append_rows_step k24 (Rr := k24.K _) (w0 := w) w.heap.size (by simp [Region.wanted]) (.tmp 22) (.tmp 29) 26 24 (.agg #[.string ⟨#[]⟩, .string ⟨#[]⟩, .string ⟨#[]⟩, .int .u32 0, .bool false]) 56 rfl Try.underlying26 infoEl rfl (show 0 < 5 by decide) (show 0 < 56 by decide) v1 (ls.take i) (ls.drop (i + 1)) Ad1 (ls.length - (i + 1)) (cap - (i + 1)) (fun k => w.heap.size ≤ k) (fun _ => False) rfl rfl H1.out (HCD1.out _ (Kd.C_below HC0.out HB3.out)) (fun x cs h => K_M _ _ x cs h) (fun _ h => h.elim) (fun k h => Nat.le_trans HB3.out.size h) HB3.out HB3.out.size (by simp; omega) ?_; intro v3 w5 h1 h2 _ _; obtain ⟨A3, c3, hv3, _, _⟩ := Kd.R_reads h1; obtain ⟨n3, hn3⟩ : ∃ n, (ls.take i ++ ls.drop (i + 1)).length = n := ⟨_, rfl⟩; rw [hn3] at hv3; clear hn3; subst hv3; have H3 := Aside0.mk h1; have HB5 := Aside0.mk h2; (try clear k0 k1 zr fr); have hbl := hw_below HH.out HB5.out; obtain ⟨k0, k1⟩ := RefB.cells hbl; have zr := blk_lt hbl; have fr := blk_frozen hbl 1; clear hbl; clear h1 h2))
  all_goals
    go_wp2_with fail
    first | go_ret | go_ret2
    have E := row_set HB5.out hzr (hw_below HH.out HB5.out) H3.out
    rw [← HD.out] at E
    exact ⟨rfl, E.1, E.2⟩
set_option maxRecDepth 100000 in
set_option maxHeartbeats 1000000 in
theorem RefDelNone (r : Nat) (most : Int) (ls : List El) (s : ByteArray) (w : World) (h : RefB w r most ls) (hv : Valid ls) (hl : ls.length ≤ 1000) (hg : get nm ls s = none) :
    Calls Try.prog 33 #[.pointer (some ⟨r, 0, none⟩), .string s] w fun e w' => e = .returned (.int .i64 3) ∧ Below w.heap.size w w' := by
  obtain ⟨A, cap, hb0, hcap, hC⟩ := h.parts
  have HH := Aside0.mk hb0
  have HR := Aside0.mk h
  have HC0 := Aside0.mk hC
  have HV := Aside0.mk hv
  have huE := Try.underlying24
  have hzr := blk_lt hb0
  have HCAP := Aside0.mk hcap
  clear h hb0 hC hv hcap
  have HS := Aside0.mk (show (get nm ls s).isSome = false by rw [hg]; rfl)
  obtain ⟨i, hi⟩ : ∃ i, ix nm ls s = i := ⟨_, rfl⟩
  have HI := Aside0.mk hi
  clear hg hi
  go_enter Try.func33, Try.ntmps33
  go_wp2_with (go_at_call 65; go_must (refine (AtIs HR.out HV.out.up (by omega) HI.out HS.out).mono ?_); go_must (rintro e w1 ⟨rfl, hb1⟩; have HB := Aside0.mk hb1; (try clear k0 k1 zr fr); have hbl := hw_below HH.out HB.out; obtain ⟨k0, k1⟩ := RefB.cells hbl; have zr := blk_lt hbl; have fr := blk_frozen hbl 1; clear hbl); clear hb1)
  first | go_ret | go_ret2
  exact ⟨rfl, HB.out⟩
theorem RefPutIs {r : Nat} {most k : Int} {ls : List El} {x : El} {w : World} (h : RefB w r most ls) (hv : Valid ls) (hl : ls.length ≤ 1000) (hk : putK most ls x = k) :
    Calls Try.prog 32 #[.pointer (some ⟨r, 0, none⟩), .agg #[.string x.f0, .string x.f1, .string x.f2, .int .u32 x.f3, .bool x.f4]] w fun e w' => e = .returned (.int .i64 k) ∧ RefB w' r most (putF most ls x) ∧ KB r w w' := by
  have no : ∀ c : Int, putK most ls x = c → c ≠ 0 → ∀ (e : Ending) (w' : World), (e = .returned (.int .i64 c) ∧ Below w.heap.size w w') → e = .returned (.int .i64 k) ∧ RefB w' r most (putF most ls x) ∧ KB r w w' := fun c hc h0 e w' ⟨he, hb⟩ =>
    ⟨by rw [← hk, hc]; exact he, by unfold putF; rw [if_neg (by rw [hc]; exact h0)]; exact h.below hb, KB.below hb⟩
  cases hc : okS x with
  | false => exact (RefPutArg r most ls x w h hv hc).mono fun e w' hp => no 2 (by unfold putK; rw [if_pos hc]) (by decide) e w' hp
  | true =>
    cases hcl : clash ls x with
    | true => exact (RefPutHave r most ls x w h hv hl hc hcl).mono fun e w' hp => no 9 (by unfold putK; rw [if_neg (by rw [hc]; decide), if_pos hcl]) (by decide) e w' hp
    | false =>
      have yes : putK most ls x = 0 → ∀ (e : Ending) (w' : World), (e = .returned (.int .i64 0) ∧ RefB w' r most (putL ls x) ∧ KB r w w') → e = .returned (.int .i64 k) ∧ RefB w' r most (putF most ls x) ∧ KB r w w' := fun h0 e w' ⟨he, h1, h2⟩ =>
        ⟨by rw [← hk, h0]; exact he, by unfold putF; rw [if_pos h0]; exact h1, h2⟩
      cases hg : get nm ls x.f0 with
      | some y => exact (RefPutOld r most ls x w h hv hl y hg hc hcl).mono fun e w' hp => yes (by unfold putK; rw [if_neg (by rw [hc]; decide), if_neg (by rw [hcl]; decide), if_neg (by rw [hg]; simp)]) e w' hp
      | none =>
        by_cases hm : most ≤ (ls.length : Int)
        · exact (RefPutFull r most ls x w h hv hl hg hm hc hcl).mono fun e w' hp => no 4 (by unfold putK; rw [if_neg (by rw [hc]; decide), if_neg (by rw [hcl]; decide), if_pos (by rw [hg]; exact ⟨rfl, hm⟩)]) (by decide) e w' hp
        · exact (RefPutNew r most ls x w h hv hl hg (by omega) hc hcl).mono fun e w' hp => yes (by unfold putK; rw [if_neg (by rw [hc]; decide), if_neg (by rw [hcl]; decide), if_neg (fun h => hm h.2)]) e w' hp
theorem RefDelIs {r : Nat} {most k : Int} {ls : List El} {s : ByteArray} {w : World} (h : RefB w r most ls) (hv : Valid ls) (hl : ls.length ≤ 1000) (hk : delK ls s = k) :
    Calls Try.prog 33 #[.pointer (some ⟨r, 0, none⟩), .string s] w fun e w' => e = .returned (.int .i64 k) ∧ RefB w' r most (del nm ls s) ∧ KB r w w' := by
  cases hg : get nm ls s with
  | some y => exact (RefDelYes r most ls s y w h hv hl hg).mono fun e w' hp => ⟨by rw [← hk]; unfold delK; rw [hg]; exact hp.1, hp.2.1, hp.2.2⟩
  | none => exact (RefDelNone r most ls s w h hv hl hg).mono fun e w' hp => ⟨by rw [← hk]; unfold delK; rw [hg]; exact hp.1, by rw [del_none hg]; exact h.below hp.2, KB.below hp.2⟩
end Go.Proofs.YtmgpaccgjafjeaaHVR
