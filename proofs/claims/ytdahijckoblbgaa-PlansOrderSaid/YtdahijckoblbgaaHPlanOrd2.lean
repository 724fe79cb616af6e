import Derived.Test.YtdahijckoblbgaaHPlanOrder
namespace Go.Proofs.YtdahijckoblbgaaHVP
open Go.RowKit Go.Maps Go.Sort Go.Shelf Go.Lib Go.Proofs.YtdahijckoblbgaaW.PrintWords Go.Proofs.YtdahijckoblbgaaHW Go.Proofs.YtdahijckoblbgaaHG Go.Proofs.Ytdahijckoblbgaa.PG27 Go.Proofs.YtdahijckoblbgaaHT
set_option linter.unusedVariables false
set_option linter.unusedSimpArgs false
theorem below_app {w2 W w5 : World} {o : Obj} {B e k n : Nat} {v : Value} {xs : List Value} (hB : Below B w2 W) (hs : B ≤ W.heap.size) (ho : W.ownsRow B e k v n xs) (hg : (W.alloc o).grownBy w5 v.ownBlock) : Below B w2 w5 :=
  (hB.alloc hs o).grown hg (by simp; omega) (fun j h => (World.ownsRow.lt ho j h).1)
theorem C_alloc {W : World} {A : Option Addr} {n : Nat} {xs : List El} (h : Kd.C k30 W A n xs) (o : Obj) : Kd.C k30 (W.alloc o) A n xs := Kd.C_below h ((Below.refl _ W).alloc (Nat.le_refl _) o)
theorem at_again {W : World} {ad : Addr} {n i : Nat} {xs : List El} {p : El} (h : Kd.C k30 W (some ad) n xs) (hi : i < n) (hp : p = rd_T30 xs (i : Int)) : W.cell? (ad.add (i * 2)) = some (.string p.f0) ∧ W.cell? ⟨(ad.add (i * 2)).block, (ad.add (i * 2)).off + 1, none⟩ = some (.int .i64 p.f1) := by
  obtain ⟨ad', hh, q0, q1⟩ := at_T30 h (i : Int) (by omega) (by omega)
  cases hh
  rw [← hp, Int.toNat_natCast] at q0 q1
  exact ⟨q0, q1⟩
theorem same_go (l : List El) (hl : l.length ≤ 100000) : ∀ (d k : Nat) (i : Int), 0 ≤ i → (l.length - i).toNat ≤ d → d < k → halyardref27_Same.l0 k l l i = some true
  | d, 0, i, _, _, h => by omega
  | d, k + 1, i, h0, h1, h2 => by
    unfold halyardref27_Same.l0
    by_cases c : i < (l.length : Int)
    · rw [if_pos c, if_pos h0, if_pos c]
      have hw : wrap64 (i + 1) = i + 1 := by unfold wrap64; omega
      rw [hw]
      simp only [beq_self_eq_true, Bool.not_true, Bool.or_self, Bool.false_eq_true, if_false]
      cases d with
      | zero => omega
      | succ d => exact same_go l hl d k (i + 1) (by omega) (by omega) (by omega)
    · rw [if_neg c]
theorem same_refl (l : List El) (hl : l.length ≤ 100000) : halyardref27_Same.f (l.length + 1) l l = some true := by
  unfold halyardref27_Same.f
  rw [if_pos rfl]
  exact same_go l hl l.length _ 0 (by omega) (by omega) (by omega)
theorem backL_len (l : List El) (by_ : Int) : ∀ k, (backL l by_ k).length = k
  | 0 => rfl
  | k + 1 => by simp [backL, backL_len l by_ k]
set_option maxRecDepth 100000 in
set_option maxHeartbeats 4000000 in
theorem PlansOrder_ok (A0 : Option Addr) (c0 : Nat) (l ls : List El) (a1 : Int) (w : World) (hr : Kd.C k30 w A0 l.length l) (hc : l.length ≤ c0) (hs : ∀ x ∈ l, x.f0.size ≤ 140737488351232) (_l1 : 0 ≤ a1) (_u1 : a1 ≤ 255)
    (hl : halyardlaw27_long.f 300 l = some false) (hn : newAll l = (0, ls)) (h100 : l.length ≤ 100) :
    Calls Try.prog 4 #[.slice A0 l.length c0, .int .u8 a1] w (AliveRet w) := by
  have hv : Valid ls := by have := new_valid l (0, []) Valid.nil; rw [show l.foldl new1 (0, []) = (0, ls) from hn] at this; exact this
  have HN := Aside0.mk hn
  have HL := Aside0.mk hl
  have HV := Aside0.mk hv
  have HR := Aside0.mk hr
  have HC := Aside0.mk hc
  have HS := Aside0.mk hs
  have HB := Aside0.mk (Below.refl w.heap.size w)
  have huE := Try.underlying30
  clear hr hc hs hl hn hv
  go_enter Try.func4, Try.ntmps4
  go_wp2_with (first
    | (go_at_call 9; go_must (refine (halyardlaw27_long.calls 300 A0 c0 l false _ HR.out HC.out HL.out).mono ?_); go_must (rintro e w1 ⟨rfl, hd⟩; replace HR := Aside0.mk (Kd.C_below HR.out (drawn_below hd)); replace HB := Aside0.mk (below_step HB.out (drawn_below hd))); clear hd)
    | (go_at_call 11; go_must (refine (New_ok HN.out HR.out HC.out HS.out).mono ?_); go_must (rintro e w2 ⟨g, b, rfl, hbk, hg0, hb0, hb1⟩; have HK := Aside0.mk hbk; replace HR := Aside0.mk (Kd.C_below HR.out hb1); replace HB := Aside0.mk (below_step HB.out hb1)); clear hbk hb1))
  obtain ⟨i0, hi, hz0, hz1, hz2⟩ := info_parts infoEl
  go_loopw [7, 8] (fun v7 v8 wr => ∃ k : Nat, k ≤ l.length ∧ v8 = .int .i64 ((l.length : Int) - 1 - (k : Int)) ∧ Aside0 (wr.ownsRow w2.heap.size 30 2 v7 k ((backL l a1 k).flatMap cel)) ∧ Aside0 (Below w2.heap.size w2 wr)) (fun _ v8 _ => (intOf v8 + 1).toNat)
  case atStart => exact ⟨0, by omega, by go_num, ⟨World.ownsRow_nil _ _ _ _⟩, ⟨Below.refl _ _⟩⟩
  case round =>
    obtain ⟨k, hk, rfl, HO, HW⟩ := hrel
    by_cases hlt : k < l.length
    · have b0 : 0 ≤ (l.length : Int) - 1 - (k : Int) := by omega
      have b1 : 0 ≤ (l.length : Int) - 1 - (k : Int) + a1 := by omega
      have b2 : (0 : Int) < (l.length : Int) := by omega
      have b3 : ¬ (l.length : Int) = 0 := by omega
      obtain ⟨j, hj⟩ : ∃ j : Nat, jx l a1 k = (j : Int) := ⟨(jx l a1 k).toNat, by unfold jx; have := Int.emod_nonneg ((l.length : Int) - 1 - k + a1) b3; omega⟩
      have hj2 : (j : Int) < (l.length : Int) := by rw [← hj]; unfold jx; exact Int.emod_lt_of_pos _ b2
      have hj3 : ((l.length : Int) - 1 - (k : Int) + a1) % (l.length : Int) = (j : Int) := hj
      obtain ⟨x, hx⟩ : ∃ x, x = rd_T30 l (j : Int) := ⟨_, rfl⟩
      have HC2 := Kd.C_below HR.out HW.out
      obtain ⟨ad, rfl, q0, q1⟩ := at_T30 HC2 (j : Int) (by omega) (by omega)
      rw [← hx, Int.toNat_natCast] at q0 q1
      have HX := Aside0.mk (show backL l a1 (k + 1) = backL l a1 k ++ [x] by rw [backL, hj, ← hx])
      clear HC2 hx hj
      go_wp2_with (at_builtin; go_must (refine wpList_append_own _ rfl (.tmp 48) (.tmp 59) 22 rfl w2.heap.size 30 i0 (.agg #[.string ⟨#[]⟩, .int .i64 0]) 2 24 Try.underlying22 hi hz0 hz1 hz2 rfl (by decide) _ _ _ rfl (HO.out.alloc _) ⟨wr.heap.size, 0, none⟩ 1 1 (cel x) rfl rfl ?_ ?_ ?_ ?_ ?_ ?_); go_must (first | (intro j u hj; exact cell_one_newK (cs := (cel x).toArray) (by simpa using hj))); go_must (first | (intro u hu; simp [cel] at hu; rcases hu with rfl | rfl <;> rfl)); go_must (first | (unfold maxLen; omega)); go_must (first | omega); go_must (first | (have := HW.out.size; simp; omega)); go_must (intro v' w5 hown' hgrow _; have HO5 := Aside0.mk hown'; have HW5 := Aside0.mk (below_app HW.out HW.out.size HO.out hgrow)); clear hown' hgrow)
      go_roundw
      case rel => exact ⟨k + 1, by omega, by go_num, ⟨by rw [HX.out, List.flatMap_append]; have z := HO5.out; simpa [cel] using z⟩, HW5⟩
      case measure => simp [intOf]; omega
    · have hk' : k = l.length := by omega
      subst hk'
      have HO' := HO.out
      rw [show l.length = (backL l a1 l.length).length from (backL_len l a1 l.length).symm] at HO'
      obtain ⟨A7, c7, rfl, hc7, hC7, hb7⟩ := C_of_own (ls := backL l a1 l.length) (by have z := HO.out; rw [backL_len]; exact z)
      have HC7L := Aside0.mk hc7
      have HSB := Aside0.mk (fun x (hx : x ∈ backL l a1 l.length) => HS.out x ((backL_perm l a1 _l1).mem_iff.mp hx))
      have hlen := backL_len l a1 l.length
      replace hlen := Aside0.mk hlen
      have HP := Aside0.mk (backL_perm l a1 _l1)
      have HC7 := Aside0.mk hC7
      have HN7 := Aside0.mk (order HN.out HP.out)
      have HLL := Aside0.mk (took l ls HN.out).len
      have HK7 := Aside0.mk (HK.out.kb HW.out)
      have HB7 := Aside0.mk (below_step HB.out HW.out)
      have HR7 := Aside0.mk (Kd.C_below HR.out HW.out)
      clear hC7 hb7 HO' hlt
      go_wp2_with (first
        | (go_at_call 11; go_must (refine (New_ok HN7.out HC7.out HC7L.out HSB.out).mono ?_); go_must (rintro e w6 ⟨g2, b2, rfl, hbk, hg0, hb0, hb1⟩; have HK2 := Aside0.mk hbk; replace HK7 := Aside0.mk (HK7.out.kb hb1); replace HB7 := Aside0.mk (below_step HB7.out hb1); replace HR7 := Aside0.mk (Kd.C_below HR7.out hb1)); clear hbk hb1)
        | (go_at_call 13; go_must (refine (List_ g b ls _ HK7.out HV.out).mono ?_); rw [show ListPost ls = fun W e W' => ∃ v, e = .returned v ∧ W'.ownsRow W.heap.size 30 2 v ls.length (ls.flatMap cel) ∧ Below W.heap.size W W' from rfl, HLL.out]; go_must (rintro e w7 ⟨v, rfl, hrow, hb1⟩; rw [← HLL.out] at hrow; obtain ⟨ar, cap, rfl, hcap, hC, hblk⟩ := C_of_own hrow; rw [HLL.out]; replace HK2 := Aside0.mk (HK2.out.kb hb1); replace HK7 := Aside0.mk (HK7.out.kb hb1); replace HB7 := Aside0.mk (below_step HB7.out hb1); replace HR7 := Aside0.mk (Kd.C_below HR7.out hb1)); clear hrow hC hblk hcap hb1))
      have hlm := HR7.out.2.1
      go_loopw [11] (fun v11 wr => ∃ i : Nat, i ≤ l.length ∧ v11 = .int .i64 (i : Int) ∧ Aside0 (Below w7.heap.size w7 wr)) (fun v11 _ => l.length - (intOf v11).toNat)
      case atStart => exact ⟨0, by omega, rfl, ⟨Below.refl _ _⟩⟩
      case round =>
        obtain ⟨i, hi', rfl, HW2⟩ := hrel
        have HK := Aside0.mk (HK7.out.kb HW2.out)
        have HK3 := Aside0.mk (HK2.out.kb HW2.out)
        have HB := Aside0.mk (below_step HB7.out HW2.out)
        by_cases hlt : i < l.length
        · obtain ⟨p, hp⟩ : ∃ p, p = rd_T30 l i := ⟨_, rfl⟩
          have HC2 := Kd.C_below HR7.out HW2.out
          obtain ⟨ad, rfl, q0, q1⟩ := at_T30 HC2 (i : Int) (by omega) (by omega)
          rw [← hp, Int.toNat_natCast] at q0 q1
          have hlt' : (i : Int) < (l.length : Int) := by omega
          have hpm : p ∈ l := by
            rw [hp]; unfold rd_T30
            rw [Int.toNat_natCast, List.getD_eq_getElem?_getD, List.getElem?_eq_getElem hlt]
            exact List.getElem_mem _
          have hps := HS.out p hpm
          have HGT := Aside0.mk (get_of_mem HV.out.up (((took l ls HN.out).mem p).mpr hpm))
          obtain ⟨⟨y, so⟩, hy⟩ : ∃ q, fits ls p.f1 = q := ⟨_, rfl⟩
          have fy := fits_is p.f1 ls HV.out.up
          rw [hy] at fy
          dsimp only at fy
          have hle := fy.least p (((took l ls HN.out).mem p).mpr hpm) (Int.le_refl _)
          have hso := hle.1
          subst hso
          have hye : y.f1 = p.f1 := Int.le_antisymm hle.2.1 (fy.yes rfl).2
          obtain ⟨yf, rfl⟩ : ∃ yf, y = (⟨yf, p.f1⟩ : El) := ⟨y.f0, by cases y; cases hye; rfl⟩
          have HY := Aside0.mk hy
          have HCr := Aside0.mk HC2
          have HPP := Aside0.mk hp
          clear HC2 hp hpm fy hle hy hye
          go_wp2_with (first
            | (go_at_call 14; go_must (refine (OfSome g2 b2 ls p.f0 _ HK3.out HV.out hps p HGT.out).mono ?_); go_must (rintro e w8 ⟨rfl, hb1⟩; have HK_ := Aside0.mk (BookAt.kb (by repeat (first | (with_reducible exact HK.out) | (with_reducible apply BookAt.alloc) | (with_reducible apply BookAt.drew))) hb1); have HK3_ := Aside0.mk (BookAt.kb (by repeat (first | (with_reducible exact HK3.out) | (with_reducible apply BookAt.alloc) | (with_reducible apply BookAt.drew))) hb1); have HC_ := Aside0.mk (Kd.C_below (by repeat (first | (with_reducible exact HCr.out) | (with_reducible apply C_alloc))) hb1); have HB_ := Aside0.mk (below_step (by repeat (first | (with_reducible first | exact HB.out | apply below_alloc | apply pw_below_drewN | apply below_drew1 | apply below_drew) | (refine Below.setCell ?_ (by first | (simp; done) | (simp; omega)) _))) hb1); have HW_ := Aside0.mk (below_step (by repeat (first | (with_reducible first | exact HW2.out | apply below_alloc | apply pw_below_drewN | apply below_drew1 | apply below_drew) | (refine Below.setCell ?_ (by first | (simp; done) | (simp; omega)) _))) hb1);  replace HK := HK_; replace HK3 := HK3_; replace HCr := HC_; replace HB := HB_; replace HW2 := HW_; clear HK_ HK3_ HC_ HB_ HW_ hb1 q0 q1; obtain ⟨q0, q1⟩ := at_again (C_alloc HCr.out (Obj.cells #[.string p.f0, .int .i64 p.f1] 30)) hlt HPP.out; have zz := HB.out.size; have zw := HW2.out.size))
            | (go_at_call 12; (with_reducible refine (Fits_ (g := g) (b := b) (ls := ls) yf p.f1 true (by repeat (first | (with_reducible exact HK.out) | (with_reducible apply BookAt.alloc) | (with_reducible apply BookAt.drew))) HV.out HY.out).mono ?_); go_must (rintro e w9 ⟨rfl, hb1⟩; have HK_ := Aside0.mk (BookAt.kb (by repeat (first | (with_reducible exact HK.out) | (with_reducible apply BookAt.alloc) | (with_reducible apply BookAt.drew))) hb1); have HK3_ := Aside0.mk (BookAt.kb (by repeat (first | (with_reducible exact HK3.out) | (with_reducible apply BookAt.alloc) | (with_reducible apply BookAt.drew))) hb1); have HC_ := Aside0.mk (Kd.C_below (by repeat (first | (with_reducible exact HCr.out) | (with_reducible apply C_alloc))) hb1); have HB_ := Aside0.mk (below_step (by repeat (first | (with_reducible first | exact HB.out | apply below_alloc | apply pw_below_drewN | apply below_drew1 | apply below_drew) | (refine Below.setCell ?_ (by first | (simp; done) | (simp; omega)) _))) hb1); have HW_ := Aside0.mk (below_step (by repeat (first | (with_reducible first | exact HW2.out | apply below_alloc | apply pw_below_drewN | apply below_drew1 | apply below_drew) | (refine Below.setCell ?_ (by first | (simp; done) | (simp; omega)) _))) hb1); have HXb := Aside0.mk (elAt_call (elAt_new w8 p) hb1);  replace HK := HK_; replace HK3 := HK3_; replace HCr := HC_; replace HB := HB_; replace HW2 := HW_; clear HK_ HK3_ HC_ HB_ HW_ hb1 q0 q1; obtain ⟨q0, q1⟩ := at_again (C_alloc HCr.out (Obj.cells #[.string yf, .int .i64 p.f1] 30)) hlt HPP.out; have zz := HB.out.size; have zw := HW2.out.size))
            | (go_at_call 12; (with_reducible refine (Fits_ (g := g2) (b := b2) (ls := ls) yf p.f1 true (by repeat (first | (with_reducible exact HK3.out) | (with_reducible apply BookAt.alloc) | (with_reducible apply BookAt.drew))) HV.out HY.out).mono ?_); go_must (rintro e w10 ⟨rfl, hb1⟩; have HK_ := Aside0.mk (BookAt.kb (by repeat (first | (with_reducible exact HK.out) | (with_reducible apply BookAt.alloc) | (with_reducible apply BookAt.drew))) hb1); have HK3_ := Aside0.mk (BookAt.kb (by repeat (first | (with_reducible exact HK3.out) | (with_reducible apply BookAt.alloc) | (with_reducible apply BookAt.drew))) hb1); have HC_ := Aside0.mk (Kd.C_below (by repeat (first | (with_reducible exact HCr.out) | (with_reducible apply C_alloc))) hb1); have HB_ := Aside0.mk (below_step (by repeat (first | (with_reducible first | exact HB.out | apply below_alloc | apply pw_below_drewN | apply below_drew1 | apply below_drew) | (refine Below.setCell ?_ (by first | (simp; done) | (simp; omega)) _))) hb1); have HW_ := Aside0.mk (below_step (by repeat (first | (with_reducible first | exact HW2.out | apply below_alloc | apply pw_below_drewN | apply below_drew1 | apply below_drew) | (refine Below.setCell ?_ (by first | (simp; done) | (simp; omega)) _))) hb1); have HXb_ := Aside0.mk (elAt_call (HXb.out.alloc (Obj.cells #[.string yf, .int .i64 p.f1] 30)) hb1); have HYb := Aside0.mk (elAt_call (elAt_new w9 (⟨yf, p.f1⟩ : El)) hb1); replace HXb := HXb_; clear HXb_; have x0 := (HXb.out.alloc (Obj.cells #[.string yf, .int .i64 p.f1] 30)).cell 0; have x1 := (HXb.out.alloc (Obj.cells #[.string yf, .int .i64 p.f1] 30)).cell 1; have y0 := (HYb.out.alloc (Obj.cells #[.string yf, .int .i64 p.f1] 30)).cell 0; have y1 := (HYb.out.alloc (Obj.cells #[.string yf, .int .i64 p.f1] 30)).cell 1; have z0 := (elAt_new w10 (⟨yf, p.f1⟩ : El)).cell 0; have z1 := (elAt_new w10 (⟨yf, p.f1⟩ : El)).cell 1; simp only [cel, List.getElem?_toArray, List.getElem?_cons_zero, List.getElem?_cons_succ] at x0 x1 y0 y1 z0 z1;  replace HK := HK_; replace HK3 := HK3_; replace HCr := HC_; replace HB := HB_; replace HW2 := HW_; clear HK_ HK3_ HC_ HB_ HW_ hb1 q0 q1; obtain ⟨q0, q1⟩ := at_again (C_alloc HCr.out (Obj.cells #[.string yf, .int .i64 p.f1] 30)) hlt HPP.out; have zz := HB.out.size; have zw := HW2.out.size)))
          go_quiet (fail)
          go_wp2_with (fail)
          go_roundw
          case rel => exact ⟨i + 1, by omega, by go_num, ⟨(by repeat (first | (with_reducible first | exact HW2.out | apply below_alloc | apply pw_below_drewN | apply below_drew1 | apply below_drew) | (refine Below.setCell ?_ (by first | (simp; done) | (simp; omega)) _)))⟩⟩
          case measure => simp [intOf]; omega
        · have HLS := Aside0.mk (same_refl ls (by rw [HLL.out]; omega))
          go_wp2_with (first
            | (go_at_call 13; (with_reducible refine (List_ g b ls _ (by repeat (first | (with_reducible exact HK.out) | (with_reducible apply BookAt.alloc) | (with_reducible apply BookAt.drew))) HV.out).mono ?_); rw [show ListPost ls = fun W e W' => ∃ v, e = .returned v ∧ W'.ownsRow W.heap.size 30 2 v ls.length (ls.flatMap cel) ∧ Below W.heap.size W W' from rfl]; go_must (rintro e w11 ⟨v, rfl, hrow, hb1⟩; obtain ⟨ar1, cap1, rfl, hcap1, hC1, hblk1⟩ := C_of_own hrow; have HC1 := Aside0.mk hC1; have HP1 := Aside0.mk hcap1; replace HK3 := Aside0.mk (HK3.out.kb hb1); replace HB := Aside0.mk (below_step HB.out hb1)); clear hrow hC1 hblk1 hcap1 hb1)
            | (go_at_call 13; (with_reducible refine (List_ g2 b2 ls _ HK3.out HV.out).mono ?_); rw [show ListPost ls = fun W e W' => ∃ v, e = .returned v ∧ W'.ownsRow W.heap.size 30 2 v ls.length (ls.flatMap cel) ∧ Below W.heap.size W W' from rfl]; go_must (rintro e w12 ⟨v, rfl, hrow, hb1⟩; obtain ⟨ar2, cap2, rfl, hcap2, hC2, hblk2⟩ := C_of_own hrow; have HC2 := Aside0.mk hC2; have HP2 := Aside0.mk hcap2; replace HC1 := Aside0.mk (Kd.C_below HC1.out hb1); replace HB := Aside0.mk (below_step HB.out hb1)); clear hrow hC2 hblk2 hcap2 hb1)
            | (go_at_call 15; (with_reducible refine (halyardref27_Same.calls _ ar1 cap1 ls ar2 cap2 ls true _ HC1.out HP1.out HC2.out HP2.out HLS.out).mono ?_); go_must (rintro e w13 ⟨rfl, hd⟩; replace HB := Aside0.mk (below_step HB.out (drawn_below hd))); clear hd)
            | (go_at_call 10; go_must (refine (alive _).mono ?_); go_must (rintro e w14 ⟨rfl, hb1⟩; replace HB := Aside0.mk (below_step HB.out hb1)); clear hb1))
          go_ret
          exact ⟨rfl, HB.out⟩
set_option maxRecDepth 100000 in
set_option maxHeartbeats 4000000 in
theorem PlansOrder_err (A0 : Option Addr) (c0 : Nat) (l ls : List El) (c : Int) (a1 : Int) (w : World) (hr : Kd.C k30 w A0 l.length l) (hc : l.length ≤ c0) (hs : ∀ x ∈ l, x.f0.size ≤ 140737488351232)
    (hl : halyardlaw27_long.f 300 l = some false) (hn : newAll l = (c, ls)) (h0 : c ≠ 0) :
    Calls Try.prog 4 #[.slice A0 l.length c0, .int .u8 a1] w (AliveRet w) := by
  have HN := Aside0.mk hn
  have H0 := Aside0.mk h0
  have hcb : (c == 0) = false := beq_eq_false_iff_ne.mpr h0
  have hcn : (c != 0) = true := bne_iff_ne.mpr h0
  have HL := Aside0.mk hl
  have HR := Aside0.mk hr
  have HC := Aside0.mk hc
  have HS := Aside0.mk hs
  have HB := Aside0.mk (Below.refl w.heap.size w)
  clear hr hc hs hl hn h0
  go_enter Try.func4, Try.ntmps4
  go_wp2_with (first
    | (go_at_call 9; go_must (refine (halyardlaw27_long.calls 300 A0 c0 l false _ HR.out HC.out HL.out).mono ?_); go_must (rintro e w1 ⟨rfl, hd⟩; replace HR := Aside0.mk (Kd.C_below HR.out (drawn_below hd)); replace HB := Aside0.mk (below_step HB.out (drawn_below hd))); clear hd)
    | (go_at_call 11; go_must (refine (New_err HN.out H0.out HR.out HC.out HS.out).mono ?_); go_must (rintro e w2 ⟨rfl, hb1⟩; replace HB := Aside0.mk (below_step HB.out hb1)); clear hb1)
    | (go_at_call 10; go_must (refine (alive _).mono ?_); go_must (rintro e w6 ⟨rfl, hb1⟩; replace HB := Aside0.mk (below_step HB.out hb1)); clear hb1))
  all_goals (first | exact absurd (by assumption) H0.out | (go_ret; exact ⟨rfl, HB.out⟩))
set_option maxRecDepth 100000 in
set_option maxHeartbeats 4000000 in
theorem PlansOrder_long (A0 : Option Addr) (c0 : Nat) (l : List El) (a1 : Int) (w : World) (hr : Kd.C k30 w A0 l.length l) (hc : l.length ≤ c0) (hl : halyardlaw27_long.f 300 l = some true) :
    Calls Try.prog 4 #[.slice A0 l.length c0, .int .u8 a1] w (AliveRet w) := by
  have HL := Aside0.mk hl
  have HR := Aside0.mk hr
  have HC := Aside0.mk hc
  have HB := Aside0.mk (Below.refl w.heap.size w)
  clear hr hc hl
  go_enter Try.func4, Try.ntmps4
  go_wp2_with (first
    | (go_at_call 9; go_must (refine (halyardlaw27_long.calls 300 A0 c0 l true _ HR.out HC.out HL.out).mono ?_); go_must (rintro e w1 ⟨rfl, hd⟩; replace HB := Aside0.mk (below_step HB.out (drawn_below hd))); clear hd)
    | (go_at_call 10; go_must (refine (alive _).mono ?_); go_must (rintro e w6 ⟨rfl, hb1⟩; replace HB := Aside0.mk (below_step HB.out hb1)); clear hb1))
  go_ret
  exact ⟨rfl, HB.out⟩
theorem PlansOrder_run (A0 : Option Addr) (c0 : Nat) (l : List El) (a1 : Int) (w : World) (hr : Kd.C k30 w A0 l.length l) (hc : l.length ≤ c0) (hs : ∀ x ∈ l, x.f0.size ≤ 140737488351232) (_l1 : 0 ≤ a1) (_u1 : a1 ≤ 255) :
    Calls Try.prog 4 #[.slice A0 l.length c0, .int .u8 a1] w (AliveRet w) := by
  obtain ⟨b, hb, h100⟩ := long_val l
  cases b with
  | true => exact PlansOrder_long A0 c0 l a1 w hr hc hb
  | false =>
    obtain ⟨⟨c, ls⟩, hn⟩ : ∃ p, newAll l = p := ⟨_, rfl⟩
    by_cases h0 : c = 0
    · subst h0; exact PlansOrder_ok A0 c0 l ls a1 w hr hc hs _l1 _u1 hb hn (h100 rfl)
    · exact PlansOrder_err A0 c0 l ls c a1 w hr hc hs hb hn h0
end Go.Proofs.YtdahijckoblbgaaHVP
