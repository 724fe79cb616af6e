/- record.File: Put. -/
import Derived.Test.YtmgpaccgjafjeaaHRec2
import Derived.Deep.DeepCutAuto

namespace Go.Proofs.YtmgpaccgjafjeaaHVR
open Go.RowKit Go.Maps Go.Sort Go.Shelf Go.Lib Go.Proofs.YtmgpaccgjafjeaaW.PrintWords Go.Proofs.YtmgpaccgjafjeaaHW Go.Proofs.YtmgpaccgjafjeaaHG Go.Proofs.Ytmgpaccgjafjeaa.PG28 Go.Proofs.YtmgpaccgjafjeaaHT
set_option linter.unusedVariables false
set_option linter.unusedSimpArgs false
def putK (most : Int) (ls : List El) (x : El) : Int := if okS x = false then 2 else if clash ls x = true then 9 else if (get nm ls x.f0).isSome = false ∧ most ≤ ls.length then 4 else 0
def putF (most : Int) (ls : List El) (x : El) : List El := if putK most ls x = 0 then putL ls x else ls
def PutPost (g b c : Nat) (most : Int) (ls : List El) (x : El) (w : World) (e : Ending) (w' : World) : Prop := e = .returned (.int .i64 (putK most ls x)) ∧ FileAt w' g b c most (putF most ls x) ∧ K2 b c w w'
theorem nmAt_new (w : World) (s : ByteArray) : NmAt (w.alloc (Obj.cells #[Value.string s] 129)) w.heap.size s := World.alloc_heap_new w _
theorem NmAt.drew {W : World} {B : Nat} {s : ByteArray} (h : NmAt W B s) : NmAt W.drew B s := h
theorem put_no {g b c : Nat} {most k : Int} {ls : List El} {x : El} {w w' : World} (h : FileAt w g b c most ls) (hk : putK most ls x = k) (h0 : k ≠ 0) (hb : Below w.heap.size w w') : PutPost g b c most ls x w (.returned (.int .i64 k)) w' :=
  ⟨by rw [hk], by unfold putF; rw [if_neg (by rw [hk]; exact h0)]; exact h.below hb, K2.below hb⟩
theorem str_eqs {s t : ByteArray} (h : s = t) : (s.toList == t.toList) = true ∧ (t.toList == s.toList) = true := by subst h; exact ⟨beq_self_eq_true _, beq_self_eq_true _⟩
theorem toList_inj {s t : ByteArray} (h : s.toList = t.toList) : s = t := by
  rw [ByteArray.toList_eq, ByteArray.toList_eq] at h
  have : s.data = t.data := Array.ext' h
  cases s; cases t; simp_all
theorem str_nes {s t : ByteArray} (h : ¬ s = t) : (s.toList == t.toList) = false ∧ (t.toList == s.toList) = false :=
  ⟨by rw [beq_eq_false_iff_ne]; exact fun e => h (toList_inj e), by rw [beq_eq_false_iff_ne]; exact fun e => h (toList_inj e).symm⟩
theorem clash_eq (ls : List El) (x : El) : clash ls x = ((atA ls x.f3).isSome && decide (¬ whoV ls x.f3 = x.f0)) := by
  unfold clash whoV
  cases atA ls x.f3 with
  | none => rfl
  | some y => show decide (y.f0 ≠ x.f0) = (true && decide (¬ y.f0 = x.f0)); simp
theorem c_new {ls : List El} (hv : Valid ls) {x : El} (hc : clash ls x = false) (hg : get nm ls x.f0 = none) : (mapAt ls (.int .u32 x.f3)).isSome = false := by
  rw [(who_any ls x.f3).2]
  cases h : atA ls x.f3 with
  | none => rfl
  | some y =>
    obtain ⟨h1, h2⟩ := atA_some h
    exact absurd (clash_no hc y h1 h2 hv.ad) (get_none hg y h1)
theorem c_old {ls : List El} (hv : Valid ls) {x o : El} (hc : clash ls x = false) (hg : get nm ls x.f0 = some o) : (mdel (mapAt ls) (.int .u32 o.f3) (.int .u32 x.f3)).isSome = false := by
  unfold mdel
  split
  · rfl
  · rename_i e
    rw [(who_any ls x.f3).2]
    cases h : atA ls x.f3 with
    | none => rfl
    | some y =>
      obtain ⟨h1, h2⟩ := atA_some h
      have h3 := clash_no hc y h1 h2 hv.ad
      have : get nm ls y.f0 = some y := get_of_mem hv.up h1
      rw [h3, hg] at this
      cases this
      exact absurd (by rw [h2]) e
theorem put_yes {g b c n1 n2 : Nat} {most : Int} {ls : List El} {x : El} {w w' : World} {M1 M2 : Lit → Option Value} (hg : w'.heap[g]? = some (.cells #[.map (some b), .map (some c), .int .i64 most] 125 (0, 0))) (hne : g ≠ b ∧ g ≠ c ∧ b ≠ c) (hk : putK most ls x = 0)
    (hb : MapIs Try.prog 9 ZS w' b M1 n1) (hc : MapIs Try.prog 22 ZN w' c M2 n2) (h1 : M1 = mapOf (putL ls x)) (h2 : M2 = mapAt (putL ls x)) (e1 : n1 = (putL ls x).length) (e2 : n2 = (putL ls x).length) (hK : K2 b c w w') : PutPost g b c most ls x w (.returned (.int .i64 0)) w' := by
  subst h1 h2 e1 e2
  exact ⟨by rw [hk], by unfold putF; rw [if_pos hk]; exact ⟨hg, hb, hc, hne⟩, hK⟩
set_option maxRecDepth 100000 in
set_option maxHeartbeats 16000000 in
theorem Put (g b c : Nat) (most : Int) (ls : List El) (x : El) (w : World) (h : FileAt w g b c most ls) (hv : Ok most ls) (hx : x.f0.size ≤ 140737488351232) (a0 : 0 ≤ x.f3) (a1 : x.f3 < 4294967296) :
    Calls Try.prog 23 #[.pointer (some ⟨g, 0, none⟩), .agg #[.string x.f0, .string x.f1, .string x.f2, .int .u32 x.f3, .bool x.f4]] w (PutPost g b c most ls x w) := by
  obtain ⟨k0, k1, k2⟩ := f_cells h
  have zg := blk_lt h.1
  have zb := h.lt.1
  have zc := h.lt.2
  have HM := Aside0.mk h.2.1
  have HN := Aside0.mk h.2.2.1
  have HG := Aside0.mk h
  have HV := Aside0.mk hv
  have HB := Aside0.mk (Below.refl w.heap.size w)
  have HX := Aside0.mk (elAt_new w x)
  have huE := Try.underlying24
  have huB := Try.underlying123
  have huK := Try.underlying125
  have huN := Try.underlying129
  obtain ⟨y, hy⟩ : ∃ y, oldV ls x.f0 = y := ⟨_, rfl⟩
  obtain ⟨is, his⟩ : ∃ is, (get nm ls x.f0).isSome = is := ⟨_, rfl⟩
  obtain ⟨who, hwho⟩ : ∃ s, whoV ls x.f3 = s := ⟨_, rfl⟩
  obtain ⟨wis, hwis⟩ : ∃ s, (atA ls x.f3).isSome = s := ⟨_, rfl⟩
  have E := Aside0.mk (look_any ls x.f0)
  have EN := Aside0.mk (who_any ls x.f3)
  rw [hy, his] at E
  replace E := Aside0.mk (show (mapOf ls (.string x.f0.data.toList)).getD ZS = .agg #[.string y.f0, .string y.f1, .string y.f2, .int .u32 y.f3, .bool y.f4] ∧ (mapOf ls (.string x.f0.data.toList)).isSome = is from E.out)
  rw [hwho, hwis] at EN
  have HY := Aside0.mk hy
  have HIS := Aside0.mk his
  have HWHO := Aside0.mk hwho
  have HWIS := Aside0.mk hwis
  clear h hv hy his hwho hwis
  go_enter Try.func23, Try.ntmps23
  go_upto_region 3 with fail
  have hl1 := (show MapIs Try.prog 9 ZS (w.alloc (Obj.cells #[.string x.f0, .string x.f1, .string x.f2, .int .u32 x.f3, .bool x.f4] 24)).drew b (mapOf ls) ls.length from (HM.out.alloc _).drew).look2_run str_keyed Try.underlying120 (Try.zeroValue24 _) (keyS x.f0 hx) trivial
  have hl2 := (show MapIs Try.prog 9 ZS ((w.alloc (Obj.cells #[.string x.f0, .string x.f1, .string x.f2, .int .u32 x.f3, .bool x.f4] 24)).alloc (Obj.cells #[Value.string { data := #[] }, Value.string { data := #[] }, Value.string { data := #[] }, Value.int IntKind.u32 0, Value.bool false] 24)).drew b (mapOf ls) ls.length from ((HM.out.alloc _).alloc _).drew).look2_run str_keyed Try.underlying120 (Try.zeroValue24 _) (keyS x.f0 hx) trivial
  rw [E.out.1, E.out.2] at hl1 hl2
  go_cut [5, 6] (fun v5 v6 wx => v5 = .pointer (some ⟨w.heap.size + 1, 0, none⟩) ∧ v6 = .bool is ∧ Aside0 (Below w.heap.size w wx) ∧ Aside0 (ElAt wx w.heap.size x) ∧ Aside0 (ElAt wx (w.heap.size + 1) y) ∧ Aside0 (wx.heap.size = w.heap.size + 2))
  case first =>
    go_region
    all_goals
      go_wp2_with fail
      go_meet
      exact ⟨rfl, rfl, ⟨(by repeat (first | (with_reducible first | exact HB.out | apply below_alloc | apply pw_below_drewN | apply below_drew1 | apply below_drew) | (refine Below.setCell ?_ (by first | (simp; done) | (simp; omega)) _)))⟩, ⟨by repeat (first | (with_reducible exact HX.out) | (with_reducible apply ElAt.drew) | (with_reducible apply ElAt.alloc))⟩, ⟨by repeat (first | (with_reducible apply ElAt.drew) | exact elAt_at y (by simp))⟩, ⟨by simp⟩⟩
  case rest =>
    obtain ⟨rfl, rfl, HB1, HX1, HY1, HS1⟩ := hcut
    rename World => w1
    have HG1 := Aside0.mk (HG.out.below HB1.out)
    obtain ⟨j0, j1, j2⟩ := f_cells HG1.out
    obtain ⟨x0, x1, x2, x3, x4⟩ := elAt_cells HX1.out
    have zg1 := blk_lt HG1.out.1
    have zx1 := blk_lt HX1.out
    have zy1 := blk_lt HY1.out
    clear k0 k1 k2
    go_upto_region 4 with fail
    have hn1 := (show MapIs Try.prog 22 ZN w1.drew c (mapAt ls) ls.length from HG1.out.2.2.1).look2_run law32 Try.underlying121 (zeroName _) (key32 x.f3 a0 a1) trivial
    have hn2 := (show MapIs Try.prog 22 ZN (w1.alloc (Obj.cells #[Value.string { data := #[] }] 129)).drew c (mapAt ls) ls.length from (HG1.out.2.2.1.alloc _)).look2_run law32 Try.underlying121 (zeroName _) (key32 x.f3 a0 a1) trivial
    rw [EN.out.1, EN.out.2] at hn1 hn2
    go_cut [7, 8] (fun v7 v8 wx => v7 = .pointer (some ⟨w1.heap.size, 0, none⟩) ∧ v8 = .bool wis ∧ Aside0 (Below w1.heap.size w1 wx) ∧ Aside0 (NmAt wx w1.heap.size who))
    case first =>
      go_region
      all_goals
        go_wp2_with fail
        go_meet
        have HB := Aside0.mk (Below.refl w1.heap.size w1)
        exact ⟨rfl, rfl, ⟨(by repeat (first | (with_reducible first | exact HB.out | apply below_alloc | apply pw_below_drewN | apply below_drew1 | apply below_drew) | (refine Below.setCell ?_ (by first | (simp; done) | (simp; omega)) _)))⟩, ⟨by repeat (first | (with_reducible apply NmAt.drew) | exact nmAt_new _ who)⟩⟩
    case rest =>
      obtain ⟨rfl, rfl, HB2, HW2⟩ := hcut
      rename World => w2
      have HG2 := Aside0.mk (HG1.out.below HB2.out)
      have HX2 := Aside0.mk (elAt_call HX1.out HB2.out)
      have HY2 := Aside0.mk (elAt_call HY1.out HB2.out)
      have HB3 := Aside0.mk (below_step HB1.out HB2.out)
      obtain ⟨x0, x1, x2, x3, x4⟩ := elAt_cells HX2.out
      clear hl1 hl2 hn1 hn2 j0 j1 j2 HB HM HN HX HG1 HX1 HY1 HB1 HB2 E EN zg zg1 zx1 zy1
      have hgb := HG2.out.2.2.2.1
      have hgc := HG2.out.2.2.2.2.1
      have hbc := HG2.out.2.2.2.2.2
      have hlen := HV.out.len
      have hm2 := HV.out.m2
      have hln : ls.length < 1000 := by omega
      clear x0 x1 x2 x3 x4
      obtain ⟨x0, x1, x2, x3, x4⟩ := elAt_cells HX2.out
      go_upto_block 0 with fail
      go_cut [33] (fun v33 wx => Aside0 (Below w.heap.size w wx) ∧ Aside0 (FileAt wx g b c most ls) ∧ Aside0 (ElAt wx w.heap.size x) ∧ Aside0 (ElAt wx (w.heap.size + 1) y) ∧ Aside0 (okS x = true ∧ clash ls x = false ∧ (is = false → (ls.length : Int) < most)))
      case first =>
        cases hok : okS x with
        | false =>
          have HC := Aside0.mk (check_ok x)
          rw [hok] at HC
          simp only [Bool.false_eq_true, if_false] at HC
          have HE := Aside0.mk hok
          clear hok
          go_wp2_with (go_at_call 29; go_must (refine (record_Check.calls _ _ _ _ _ 2 _ HC.out).mono ?_); go_must (rintro e w3 ⟨rfl, hb⟩; have HG3 := Aside0.mk (HG2.out.below hb); have HX3 := Aside0.mk (elAt_call HX2.out hb); have HY3 := Aside0.mk (elAt_call HY2.out hb); have HW3 := Aside0.mk (HW2.out.below hb); have HB4 := Aside0.mk (below_step HB3.out hb); obtain ⟨j0, j1, j2⟩ := f_cells HG3.out; obtain ⟨x0, x1, x2, x3, x4⟩ := elAt_cells HX3.out; obtain ⟨y0, y1, y2, y3, y4⟩ := elAt_cells HY3.out; have n0 := HW3.out.cell; have hl0 : ∀ (ty : TypeId), (Builtin.len_ #[120] ty #[.map (some b)]).run Try.prog w3 = .ok (.int .i64 ls.length) w3 := fun ty => HG3.out.2.1.len_run Try.underlying120 ty; have hl : ∀ (q : Nat) (ty : TypeId), (Builtin.len_ #[120] ty #[.map (some b)]).run Try.prog (w3.drewN q) = .ok (.int .i64 ls.length) (w3.drewN q) := fun q ty => (HG3.out.2.1.drewN q).len_run Try.underlying120 ty); clear hb)
          go_ret
          exact put_no HG.out (by unfold putK; rw [if_pos HE.out]) (by decide) HB4.out
        | true =>
          have HC := Aside0.mk (check_ok x)
          rw [hok] at HC
          simp only [if_true] at HC
          have HE := Aside0.mk hok
          clear hok
          have hcl := clash_eq ls x
          rw [HWIS.out, HWHO.out] at hcl
          cases hcc : clash ls x with
          | true =>
            rw [hcc] at hcl
            have h1 : wis = true := by cases wis with | true => rfl | false => exact absurd hcl (by simp)
            subst h1
            have h2 : ¬ who = x.f0 := by simpa using hcl.symm
            obtain ⟨s1, s2⟩ := str_nes h2
            have s3 : (who.toList != x.f0.toList) = true := by simp [bne, s1]
            have HCC := Aside0.mk hcc
            clear hcl hcc h2
            go_wp2_with (go_at_call 29; go_must (refine (record_Check.calls _ _ _ _ _ 0 _ HC.out).mono ?_); go_must (rintro e w3 ⟨rfl, hb⟩; have HG3 := Aside0.mk (HG2.out.below hb); have HX3 := Aside0.mk (elAt_call HX2.out hb); have HY3 := Aside0.mk (elAt_call HY2.out hb); have HW3 := Aside0.mk (HW2.out.below hb); have HB4 := Aside0.mk (below_step HB3.out hb); obtain ⟨j0, j1, j2⟩ := f_cells HG3.out; obtain ⟨x0, x1, x2, x3, x4⟩ := elAt_cells HX3.out; obtain ⟨y0, y1, y2, y3, y4⟩ := elAt_cells HY3.out; have n0 := HW3.out.cell; have hl0 : ∀ (ty : TypeId), (Builtin.len_ #[120] ty #[.map (some b)]).run Try.prog w3 = .ok (.int .i64 ls.length) w3 := fun ty => HG3.out.2.1.len_run Try.underlying120 ty; have hl : ∀ (q : Nat) (ty : TypeId), (Builtin.len_ #[120] ty #[.map (some b)]).run Try.prog (w3.drewN q) = .ok (.int .i64 ls.length) (w3.drewN q) := fun q ty => (HG3.out.2.1.drewN q).len_run Try.underlying120 ty); clear hb)
            go_ret
            exact put_no HG.out (by unfold putK; rw [if_neg (by rw [HE.out]; decide), if_pos HCC.out]) (by decide) HB4.out
          | false =>
            have HCC := Aside0.mk hcc
            cases is with
            | false =>
              have hg0 : get nm ls x.f0 = none := by
                cases hg : get nm ls x.f0 with
                | none => rfl
                | some z => rw [hg] at HIS; exact absurd HIS.out (by simp)
              have hw0 : wis = false := by rw [← HWIS.out, ← (who_any ls x.f3).2]; exact c_new HV.out.v hcc hg0
              subst hw0
              have HG0 := Aside0.mk hg0
              clear hcl hcc hg0
              by_cases hf : most ≤ (ls.length : Int)
              · have hfd : decide (most ≤ (ls.length : Int)) = true := decide_eq_true hf
                go_wp2_with (go_at_call 29; go_must (refine (record_Check.calls _ _ _ _ _ 0 _ HC.out).mono ?_); go_must (rintro e w3 ⟨rfl, hb⟩; have HG3 := Aside0.mk (HG2.out.below hb); have HX3 := Aside0.mk (elAt_call HX2.out hb); have HY3 := Aside0.mk (elAt_call HY2.out hb); have HW3 := Aside0.mk (HW2.out.below hb); have HB4 := Aside0.mk (below_step HB3.out hb); obtain ⟨j0, j1, j2⟩ := f_cells HG3.out; obtain ⟨x0, x1, x2, x3, x4⟩ := elAt_cells HX3.out; obtain ⟨y0, y1, y2, y3, y4⟩ := elAt_cells HY3.out; have n0 := HW3.out.cell; have hl0 : ∀ (ty : TypeId), (Builtin.len_ #[120] ty #[.map (some b)]).run Try.prog w3 = .ok (.int .i64 ls.length) w3 := fun ty => HG3.out.2.1.len_run Try.underlying120 ty; have hl : ∀ (q : Nat) (ty : TypeId), (Builtin.len_ #[120] ty #[.map (some b)]).run Try.prog (w3.drewN q) = .ok (.int .i64 ls.length) (w3.drewN q) := fun q ty => (HG3.out.2.1.drewN q).len_run Try.underlying120 ty); clear hb)
                repeat (go_quiet (fail); try go_wp2)
                go_ret
                exact put_no HG.out (by unfold putK; rw [if_neg (by rw [HE.out]; decide), if_neg (by rw [HCC.out]; decide), if_pos ⟨by rw [HG0.out]; rfl, hf⟩]) (by decide) (by repeat (first | (with_reducible first | exact HB4.out | apply below_alloc | apply pw_below_drewN | apply below_drew1 | apply below_drew)))
              · have hfd : decide (most ≤ (ls.length : Int)) = false := decide_eq_false hf
                have HF := Aside0.mk (show (ls.length : Int) < most by omega)
                go_wp2_with (go_at_call 29; go_must (refine (record_Check.calls _ _ _ _ _ 0 _ HC.out).mono ?_); go_must (rintro e w3 ⟨rfl, hb⟩; have HG3 := Aside0.mk (HG2.out.below hb); have HX3 := Aside0.mk (elAt_call HX2.out hb); have HY3 := Aside0.mk (elAt_call HY2.out hb); have HW3 := Aside0.mk (HW2.out.below hb); have HB4 := Aside0.mk (below_step HB3.out hb); obtain ⟨j0, j1, j2⟩ := f_cells HG3.out; obtain ⟨x0, x1, x2, x3, x4⟩ := elAt_cells HX3.out; obtain ⟨y0, y1, y2, y3, y4⟩ := elAt_cells HY3.out; have n0 := HW3.out.cell; have hl0 : ∀ (ty : TypeId), (Builtin.len_ #[120] ty #[.map (some b)]).run Try.prog w3 = .ok (.int .i64 ls.length) w3 := fun ty => HG3.out.2.1.len_run Try.underlying120 ty; have hl : ∀ (q : Nat) (ty : TypeId), (Builtin.len_ #[120] ty #[.map (some b)]).run Try.prog (w3.drewN q) = .ok (.int .i64 ls.length) (w3.drewN q) := fun q ty => (HG3.out.2.1.drewN q).len_run Try.underlying120 ty); clear hb)
                repeat (go_quiet (fail); try go_wp2)
                go_meet
                exact ⟨⟨below_step HB4.out (pw_below_drewN (Below.refl w3.heap.size w3) nq)⟩, ⟨HG3.out.below (pw_below_drewN (Below.refl w3.heap.size w3) nq)⟩, ⟨elAt_call HX3.out (pw_below_drewN (Below.refl w3.heap.size w3) nq)⟩, ⟨elAt_call HY3.out (pw_below_drewN (Below.refl w3.heap.size w3) nq)⟩, ⟨HE.out, HCC.out, fun _ => HF.out⟩⟩
            | true =>
              cases wis with
              | false =>
                clear hcl hcc
                go_wp2_with (go_at_call 29; go_must (refine (record_Check.calls _ _ _ _ _ 0 _ HC.out).mono ?_); go_must (rintro e w3 ⟨rfl, hb⟩; have HG3 := Aside0.mk (HG2.out.below hb); have HX3 := Aside0.mk (elAt_call HX2.out hb); have HY3 := Aside0.mk (elAt_call HY2.out hb); have HW3 := Aside0.mk (HW2.out.below hb); have HB4 := Aside0.mk (below_step HB3.out hb); obtain ⟨j0, j1, j2⟩ := f_cells HG3.out; obtain ⟨x0, x1, x2, x3, x4⟩ := elAt_cells HX3.out; obtain ⟨y0, y1, y2, y3, y4⟩ := elAt_cells HY3.out; have n0 := HW3.out.cell; have hl0 : ∀ (ty : TypeId), (Builtin.len_ #[120] ty #[.map (some b)]).run Try.prog w3 = .ok (.int .i64 ls.length) w3 := fun ty => HG3.out.2.1.len_run Try.underlying120 ty; have hl : ∀ (q : Nat) (ty : TypeId), (Builtin.len_ #[120] ty #[.map (some b)]).run Try.prog (w3.drewN q) = .ok (.int .i64 ls.length) (w3.drewN q) := fun q ty => (HG3.out.2.1.drewN q).len_run Try.underlying120 ty); clear hb)
                repeat (go_quiet (fail); try go_wp2)
                go_meet
                exact ⟨⟨below_step HB4.out (pw_below_drewN (Below.refl w3.heap.size w3) nq)⟩, ⟨HG3.out.below (pw_below_drewN (Below.refl w3.heap.size w3) nq)⟩, ⟨elAt_call HX3.out (pw_below_drewN (Below.refl w3.heap.size w3) nq)⟩, ⟨elAt_call HY3.out (pw_below_drewN (Below.refl w3.heap.size w3) nq)⟩, ⟨HE.out, HCC.out, fun e => absurd e (by decide)⟩⟩
              | true =>
                have h2 : who = x.f0 := by rw [hcc] at hcl; simpa using hcl.symm
                obtain ⟨s1, s2⟩ := str_eqs h2
                have s3 : (who.toList != x.f0.toList) = false := by simp [bne, s1]
                clear hcl hcc h2
                go_wp2_with (go_at_call 29; go_must (refine (record_Check.calls _ _ _ _ _ 0 _ HC.out).mono ?_); go_must (rintro e w3 ⟨rfl, hb⟩; have HG3 := Aside0.mk (HG2.out.below hb); have HX3 := Aside0.mk (elAt_call HX2.out hb); have HY3 := Aside0.mk (elAt_call HY2.out hb); have HW3 := Aside0.mk (HW2.out.below hb); have HB4 := Aside0.mk (below_step HB3.out hb); obtain ⟨j0, j1, j2⟩ := f_cells HG3.out; obtain ⟨x0, x1, x2, x3, x4⟩ := elAt_cells HX3.out; obtain ⟨y0, y1, y2, y3, y4⟩ := elAt_cells HY3.out; have n0 := HW3.out.cell; have hl0 : ∀ (ty : TypeId), (Builtin.len_ #[120] ty #[.map (some b)]).run Try.prog w3 = .ok (.int .i64 ls.length) w3 := fun ty => HG3.out.2.1.len_run Try.underlying120 ty; have hl : ∀ (q : Nat) (ty : TypeId), (Builtin.len_ #[120] ty #[.map (some b)]).run Try.prog (w3.drewN q) = .ok (.int .i64 ls.length) (w3.drewN q) := fun q ty => (HG3.out.2.1.drewN q).len_run Try.underlying120 ty); clear hb)
                repeat (go_quiet (fail); try go_wp2)
                go_meet
                exact ⟨⟨below_step HB4.out (pw_below_drewN (Below.refl w3.heap.size w3) nq)⟩, ⟨HG3.out.below (pw_below_drewN (Below.refl w3.heap.size w3) nq)⟩, ⟨elAt_call HX3.out (pw_below_drewN (Below.refl w3.heap.size w3) nq)⟩, ⟨elAt_call HY3.out (pw_below_drewN (Below.refl w3.heap.size w3) nq)⟩, ⟨HE.out, HCC.out, fun e => absurd e (by decide)⟩⟩
      case rest =>
        obtain ⟨HB5, HG5, HX5, HY5, HF5⟩ := hcut
        rename World => w5
        have HE := Aside0.mk HF5.out.1
        have HCC := Aside0.mk HF5.out.2.1
        have HL5 := Aside0.mk HF5.out.2.2
        have HPV := Aside0.mk (put_valid HV.out.v HE.out HCC.out a0 a1)
        clear HF5 HG2 HX2 HY2 HW2 HB3 x0 x1 x2 x3 x4
        obtain ⟨j0, j1, j2⟩ := f_cells HG5.out
        obtain ⟨x0, x1, x2, x3, x4⟩ := elAt_cells HX5.out
        obtain ⟨y0, y1, y2, y3, y4⟩ := elAt_cells HY5.out
        go_upto_if 62 with fail
        go_cut [62] (fun v62 wx => ∃ (M2 : Lit → Option Value) (n2 : Nat), Aside0 (wx.heap[g]? = some (.cells #[.map (some b), .map (some c), .int .i64 most] 125 (0, 0))) ∧ Aside0 (ElAt wx w.heap.size x) ∧ Aside0 (MapIs Try.prog 9 ZS wx b (mapOf ls) ls.length) ∧ Aside0 (MapIs Try.prog 22 ZN wx c M2 n2) ∧ Aside0 (K2 b c w wx) ∧ Aside0 (mput M2 (.int .u32 x.f3) (.agg #[.string x.f0]) = mapAt (putL ls x) ∧ (M2 (.int .u32 x.f3)).isSome = false ∧ n2 + 1 = (putL ls x).length ∧ n2 < 1000))
        case first =>
          cases is with
          | false =>
            have hg0 : get nm ls x.f0 = none := by
              cases hg : get nm ls x.f0 with
              | none => rfl
              | some z => rw [hg] at HIS; exact absurd HIS.out (by simp)
            have HG0 := Aside0.mk hg0
            clear hg0
            go_wp2_with fail
            go_meet
            exact ⟨_, _, ⟨HG5.out.1⟩, HX5, ⟨HG5.out.2.1⟩, ⟨HG5.out.2.2.1⟩, ⟨K2.below HB5.out⟩, ⟨mapAt_new HV.out.v HPV.out HG0.out, c_new HV.out.v HCC.out HG0.out, by rw [put_len HV.out.v.up, HG0.out]; rfl, hln⟩⟩
          | true =>
            obtain ⟨o, hg1⟩ : ∃ o, get nm ls x.f0 = some o := by
              cases hg : get nm ls x.f0 with
              | none => rw [hg] at HIS; exact absurd HIS.out (by simp)
              | some z => exact ⟨z, rfl⟩
            have hyo : y = o := by rw [← HY.out]; unfold oldV; rw [hg1]; rfl
            subst hyo
            obtain ⟨r0, r1⟩ := HV.out.v.rg y (get_some hg1).1
            have EC := Aside0.mk (show (mapAt ls (.int .u32 y.f3)).isSome = true by rw [(who_any ls y.f3).2, atA_mem HV.out.v.ad (get_some hg1).1]; rfl)
            have hlp : 0 < ls.length := List.length_pos_of_mem (get_some hg1).1
            have HG0 := Aside0.mk hg1
            clear hg1
            go_wp2_with fail
            go_still_tail 7, (by kernel_rfl)
            (refine wp_delete _ rfl _ _ 121 22 rfl 129 law32 Try.underlying121 ZN c _ (ls.length - 1) _ rfl (by repeat (first | exact HG5.out.2.2.1 | apply MapIs.alloc | apply MapIs.drewN | apply MapIs.drew)) _ (.int .u32 y.f3) rfl (key32 y.f3 r0 r1) trivial (by rw [EC.out, if_pos rfl]; omega) ?_; intro w4 hm4 ht4; have HK4 := Aside0.mk (show KB c w5 w4 from by have z := KB.turned ht4; exact z); have MC := Aside0.mk hm4; have MB := Aside0.mk (HG5.out.2.1.heap (HK4.out.2.2.2.2 b HG5.out.2.1.lt hbc)); have HX4 := Aside0.mk (show ElAt w4 w.heap.size x from KB.block HK4.out HX5.out (Nat.ne_of_gt zc)); have HG4 := Aside0.mk (HK4.out.block HG5.out.1 hgc); clear hm4 ht4)
            go_wp2_with fail
            go_meet
            exact ⟨_, _, HG4, HX4, MB, MC, ⟨(K2.below HB5.out).trans (K2.right HK4.out)⟩, ⟨mapAt_old HV.out.v HPV.out HG0.out, c_old HV.out.v HCC.out HG0.out, by rw [put_len HV.out.v.up, HG0.out, if_pos (show (some y).isSome = true from rfl)]; omega, by omega⟩⟩
        case rest =>
          obtain ⟨M2, n2, HG6, HX6, MB, MC, HK6, HM6⟩ := hcut
          rename World => w6
          have hn2 := HM6.out.2.2.2
          clear j0 j1 j2 x0 x1 x2 x3 x4 y0 y1 y2 y3 y4 HG5 HX5 HY5
          have j0 := blk_cell HG6.out 0
          have j1 := blk_cell HG6.out 1
          obtain ⟨x0, x1, x2, x3, x4⟩ := elAt_cells HX6.out
          simp only [List.getElem?_toArray, List.getElem?_cons_zero, List.getElem?_cons_succ] at j0 j1
          go_wp2_with fail
          obtain ⟨v1, st1, wA, hA, pA, kA, zA⟩ := entry_run (w := World.drew w6) (t := 120) (e := 24) (show MapIs Try.prog 9 ZS (World.drew w6) b (mapOf ls) ls.length from MB.out) str_keyed Try.underlying120 (fun u => Try.zeroValue24 u) (by omega) (keyS x.f0 hx) trivial
          obtain ⟨wB, hB, mB, kB, zB⟩ := pA wA (.agg #[.string x.f0, .string x.f1, .string x.f2, .int .u32 x.f3, .bool x.f4]) rfl
          have KAB : KB b w6 wB := (show KB b w6 wA from kA).trans kB
          have MCB := MC.out.heap (KAB.2.2.2.2 c MC.out.lt (Ne.symm hbc))
          obtain ⟨v2, st2, wC, hC, pC, kC, zC⟩ := entry_run (t := 121) (e := 129) MCB law32 Try.underlying121 (fun u => zeroName u) (by omega) (key32 x.f3 a0 a1) trivial
          obtain ⟨wD, hD, mD, kD, zD⟩ := pC wC (.agg #[.string x.f0]) rfl
          have KCD := kC.trans kD
          have mBD := mB.heap (KCD.2.2.2.2 b mB.lt hbc)
          have KA := Aside0.mk ((K2.left (c := c) KAB).trans (K2.right (b := b) KCD))
          have MB8 := Aside0.mk mBD
          have MC8 := Aside0.mk mD
          have cA : ∀ {B : Nat} {o : Obj}, w6.heap[B]? = some o → B ≠ b → wA.heap[B]? = some o := fun h hne => KB.block (show KB b w6 wA from kA) h hne
          have gA := cA HG6.out hgb
          have XA : ElAt wA w.heap.size x := cA HX6.out (Nat.ne_of_gt zb)
          have gB := KB.block kB gA hgb
          have XB : ElAt wB w.heap.size x := KB.block kB XA (Nat.ne_of_gt zb)
          have gC := KB.block kC gB hgc
          have XC : ElAt wC w.heap.size x := KB.block kC XB (Nat.ne_of_gt zc)
          have p0 := blk_cell gA 0
          have p1 := blk_cell gA 1
          have p2 := blk_cell gB 0
          have p3 := blk_cell gB 1
          have p4 := blk_cell gC 0
          have p5 := blk_cell gC 1
          obtain ⟨q0, q1, q2, q3, q4⟩ := elAt_cells XA
          obtain ⟨t0, t1, t2, t3, t4⟩ := elAt_cells XB
          obtain ⟨l0, l1, l2, l3, l4⟩ := elAt_cells XC
          simp only [List.getElem?_toArray, List.getElem?_cons_zero, List.getElem?_cons_succ] at p0 p1 p2 p3 p4 p5
          unfold goInt at hA hB hC hD
          try clear y0 y1 y2 y3 y4
          try clear n0
          try clear j2
          clear pA pC kA kB zA zB kC kD zC zD mB mD mBD KAB KCD MCB cA gA XA gB XB gC XC
          go_region
          all_goals
            go_wp2_with fail
            go_ret
            refine put_yes (KA.out.block HG6.out hgb hgc) ⟨hgb, hgc, hbc⟩ (by unfold putK; rw [if_neg (by rw [HE.out]; decide), if_neg (by rw [HCC.out]; decide), if_neg (fun e => absurd e.2 (by have := HL5.out (by rw [← HIS.out]; exact e.1); omega))]) MB8.out MC8.out (mapOf_put HV.out.v.up x) HM6.out.1 (by rw [put_len HV.out.v.up, (look_any ls x.f0).2]) (by rw [HM6.out.2.1, if_neg (by decide)]; exact HM6.out.2.2.1) (HK6.out.trans KA.out)
end Go.Proofs.YtmgpaccgjafjeaaHVR
