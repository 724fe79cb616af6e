/- RecordBytes: the walk. -/
import Derived.Test.YtmgpaccgjafjeaaHRecL
import Derived.Test.YtmgpaccgjafjeaaPG28m
namespace Go.Proofs.YtmgpaccgjafjeaaHVR
open Go.RowKit Go.Proofs.YtmgpaccgjafjeaaW.PrintWords Go.Proofs.YtmgpaccgjafjeaaHW Go.Proofs.YtmgpaccgjafjeaaHG Go.Proofs.Ytmgpaccgjafjeaa.PG28 Go.Proofs.YtmgpaccgjafjeaaHT
set_option linter.unusedVariables false
set_option linter.unusedSimpArgs false
theorem long_go (l : List S24) : ∀ (d k : Nat) (s i : Int), 0 ≤ i → i ≤ 200 → (200 - i).toNat ≤ d → d < k → ∃ b, halyardlaw28_Long.l0 k l s i = some b ∧ (b = false → l.length ≤ 100) := by
  intro d
  induction d with
  | zero =>
    intro k s i h0 h1 hd hk
    obtain ⟨k, rfl⟩ : ∃ m, k = m + 1 := ⟨k - 1, by omega⟩
    simp only [halyardlaw28_Long.l0]
    rw [if_neg (show ¬ i < 200 by omega)]
    split
    · split
      · exact ⟨_, rfl, by simp⟩
      · exact ⟨_, rfl, fun _ => by omega⟩
    · split
      · exact ⟨_, rfl, by simp⟩
      · exact ⟨_, rfl, fun _ => by omega⟩
  | succ d ih =>
    intro k s i h0 h1 hd hk
    obtain ⟨k, rfl⟩ : ∃ m, k = m + 1 := ⟨k - 1, by omega⟩
    simp only [halyardlaw28_Long.l0]
    by_cases c : i < (l.length : Int)
    · rw [if_pos c]
      by_cases c2 : i < 200
      · rw [if_pos c2, if_pos h0, show wrap64 (i + 1) = i + 1 by unfold wrap64; omega]
        exact ih k _ (i + 1) (by omega) (by omega) (by omega) (by omega)
      · rw [if_neg c2]
        split
        · exact ⟨_, rfl, by simp⟩
        · exact ⟨_, rfl, fun _ => by omega⟩
    · rw [if_neg c]
      split
      · exact ⟨_, rfl, by simp⟩
      · exact ⟨_, rfl, fun _ => by omega⟩
theorem long_val (l : List S24) : ∃ b, halyardlaw28_Long.f 300 l = some b ∧ (b = false → l.length ≤ 100) :=
  long_go l 200 300 0 0 (by decide) (by decide) (by decide) (by decide)
theorem el_ext {x y : El} (h0 : x.f0 = y.f0) (h1 : x.f1 = y.f1) (h2 : x.f2 = y.f2) (h3 : x.f3 = y.f3) (h4 : x.f4 = y.f4) : x = y := by
  obtain ⟨a, b, c, d, e⟩ := x
  obtain ⟨a', b', c', d', e'⟩ := y
  dsimp only at h0 h1 h2 h3 h4
  subst h0 h1 h2 h3 h4
  rfl
theorem alloc_at {W : World} {B : Nat} (o : Obj) (h : W.heap.size = B) : (W.alloc o).heap[B]? = some o := by subst h; exact World.alloc_heap_new W o
theorem C_of_blk {w : World} {B : Nat} {cur : Array Value} {l : List El} (h : w.heap[B]? = some (.cells cur 24 (0, 0))) (hl : l.length ≤ 100000) (hc : cur.toList = l.flatMap cel) : Kd.C k24 w (some ⟨B, 0, none⟩) l.length l := by
  have ho : w.ownsRow 0 24 5 (.slice (some ⟨B, 0, none⟩) l.length l.length) l.length (l.flatMap cel) := by
    have e := Go.Proofs.YtmgpaccgjafjeaaHS.flat_len cel 5 cel_len l
    refine ⟨e, .inr ⟨B, l.length, cur, rfl, Nat.zero_le _, h, Nat.le_refl _, by unfold maxLen; omega, by rw [← e, ← hc]; simp, ?_⟩⟩
    rw [← e, ← hc, List.take_length]
  obtain ⟨A, cap, hv, _, hC, _⟩ := C_of_own ho
  injection hv with hA _ _
  rw [hA]
  exact hC
theorem ReadIs {s : ByteArray} {cs : El} {kg : Int} {w : World} (hs : s.size ≤ 140737488351232) (h : readK s = (cs, kg)) : Calls Try.prog 12 #[.string s] w fun e w' => e = .returned (.tuple #[.agg #[.string cs.f0, .string cs.f1, .string cs.f2, .int .u32 cs.f3, .bool cs.f4], .int .i64 kg]) ∧ Below w.heap.size w w' := by
  refine (Read s w hs).mono fun e w' hp => ?_
  unfold ReadPost at hp
  rw [h] at hp
  exact hp
theorem RefReadIs {s : ByteArray} {cs : El} {kg : Int} {w : World} (hs : s.size ≤ 140737488351232) (h : readK s = (cs, kg)) : Calls Try.prog 13 #[.string s] w fun e w' => e = .returned (.tuple #[.agg #[.string cs.f0, .string cs.f1, .string cs.f2, .int .u32 cs.f3, .bool cs.f4], .int .i64 kg]) ∧ Below w.heap.size w w' := by
  refine (RefRead s w hs).mono fun e w' hp => ?_
  unfold ReadPost at hp
  rw [h] at hp
  exact hp
theorem enc_inj2 {x y : El} (hx : okS x = true) (hy : okS y = true) (x0 : 0 ≤ x.f3) (x1 : x.f3 < 4294967296) (y0 : 0 ≤ y.f3) (y1 : y.f3 < 4294967296) (h : encS x = encS y) : x = y := by
  have e1 := read_enc hx x0 x1
  have e2 := read_enc hy y0 y1
  rw [h, e2] at e1
  injection e1 with e _
  exact e.symm
set_option maxRecDepth 100000 in
set_option maxHeartbeats 8000000 in
theorem RecordBytes_long (x y : El) (s : ByteArray) (w : World) (hs : s.size ≤ 140737488351232) (ax : 0 ≤ x.f3 ∧ x.f3 < 4294967296) (ay : 0 ≤ y.f3 ∧ y.f3 < 4294967296) (hl : halyardlaw28_Long.f 300 [x, y] = some true) :
    Calls Try.prog 3 #[.agg #[.string x.f0, .string x.f1, .string x.f2, .int .u32 x.f3, .bool x.f4], .agg #[.string y.f0, .string y.f1, .string y.f2, .int .u32 y.f3, .bool y.f4], .string s] w (AliveRet w) := by
  have HB := Aside0.mk (Below.refl w.heap.size w)
  have HX := Aside0.mk (elAt_new w x)
  have HY := Aside0.mk (elAt_at (W := w.alloc (Obj.cells #[.string x.f0, .string x.f1, .string x.f2, .int .u32 x.f3, .bool x.f4] 24)) (B := w.heap.size + 1) y (by simp))
  replace HX := Aside0.mk (HX.out.alloc (Obj.cells #[.string y.f0, .string y.f1, .string y.f2, .int .u32 y.f3, .bool y.f4] 24))
  have huE := Try.underlying24
  obtain ⟨x0, x1, x2, x3, x4⟩ := elAt_cells HX.out
  obtain ⟨y0, y1, y2, y3, y4⟩ := elAt_cells HY.out
  have HL := Aside0.mk hl
  clear hl
  go_enter Try.func3, Try.ntmps3
  go_wp2_with (first
    | (go_at_call 8; go_must (refine (halyardlaw28_Long.calls 300 (some ⟨w.heap.size + 1 + 1, 0, none⟩) 2 [x, y] true _ (C_of_blk (l := [x, y]) (alloc_at _ (by simp)) (by simp) rfl) (Nat.le_refl _) HL.out).mono ?_); go_must (rintro e w1 ⟨rfl, hd⟩; have hb := drawn_below hd; have HX_ := Aside0.mk (elAt_call (by repeat (first | (with_reducible exact HX.out) | (with_reducible apply ElAt.drew) | (with_reducible apply ElAt.alloc))) hb); have HY_ := Aside0.mk (elAt_call (by repeat (first | (with_reducible exact HY.out) | (with_reducible apply ElAt.drew) | (with_reducible apply ElAt.alloc))) hb); have HB_ := Aside0.mk (below_step (by repeat (first | (with_reducible first | exact HB.out | apply below_alloc | apply pw_below_drewN | apply below_drew1 | apply below_drew) | (refine Below.setCell ?_ (by first | (simp; done) | (simp; omega)) _))) hb); (try have HC_ := Aside0.mk (elAt_call (by repeat (first | (with_reducible exact HC.out) | (with_reducible apply ElAt.drew) | (with_reducible apply ElAt.alloc))) hb)); (try have HD_ := Aside0.mk (elAt_call (by repeat (first | (with_reducible exact HD.out) | (with_reducible apply ElAt.drew) | (with_reducible apply ElAt.alloc))) hb)); (try have HZ_ := Aside0.mk (elAt_call (by repeat (first | (with_reducible exact HZ.out) | (with_reducible apply ElAt.drew) | (with_reducible apply ElAt.alloc))) hb)); replace HX := HX_; replace HY := HY_; replace HB := HB_; clear HX_ HY_ HB_; (try (replace HC := HC_; clear HC_)); (try (replace HD := HD_; clear HD_)); (try (replace HZ := HZ_; clear HZ_)); clear x0 x1 x2 x3 x4 y0 y1 y2 y3 y4; obtain ⟨x0, x1, x2, x3, x4⟩ := elAt_cells HX.out; obtain ⟨y0, y1, y2, y3, y4⟩ := elAt_cells HY.out; have zz := HB.out.size; have zx := blk_lt HX.out; have zy := blk_lt HY.out; (try (clear c0 c1 c2 c3 c4; obtain ⟨c0, c1, c2, c3, c4⟩ := elAt_cells HC.out; have zc := blk_lt HC.out))); clear hb)
    | (go_at_call 9; go_must (refine (alive _).mono ?_); go_must (rintro e w20 ⟨rfl, hb⟩; have HB_ := Aside0.mk (below_step (by repeat (first | (with_reducible first | exact HB.out | apply below_alloc | apply pw_below_drewN | apply below_drew1 | apply below_drew) | (refine Below.setCell ?_ (by first | (simp; done) | (simp; omega)) _))) hb); replace HB := HB_; clear HB_); clear hb))
  go_ret
  exact ⟨rfl, HB.out⟩
set_option maxRecDepth 100000 in
set_option maxHeartbeats 8000000 in
theorem RecordBytes_big (x y : El) (s : ByteArray) (w : World) (hs : s.size ≤ 140737488351232) (ax : 0 ≤ x.f3 ∧ x.f3 < 4294967296) (ay : 0 ≤ y.f3 ∧ y.f3 < 4294967296) (hl : halyardlaw28_Long.f 300 [x, y] = some false) (hz : 1024 < s.size) :
    Calls Try.prog 3 #[.agg #[.string x.f0, .string x.f1, .string x.f2, .int .u32 x.f3, .bool x.f4], .agg #[.string y.f0, .string y.f1, .string y.f2, .int .u32 y.f3, .bool y.f4], .string s] w (AliveRet w) := by
  have HB := Aside0.mk (Below.refl w.heap.size w)
  have HX := Aside0.mk (elAt_new w x)
  have HY := Aside0.mk (elAt_at (W := w.alloc (Obj.cells #[.string x.f0, .string x.f1, .string x.f2, .int .u32 x.f3, .bool x.f4] 24)) (B := w.heap.size + 1) y (by simp))
  replace HX := Aside0.mk (HX.out.alloc (Obj.cells #[.string y.f0, .string y.f1, .string y.f2, .int .u32 y.f3, .bool y.f4] 24))
  have huE := Try.underlying24
  obtain ⟨x0, x1, x2, x3, x4⟩ := elAt_cells HX.out
  obtain ⟨y0, y1, y2, y3, y4⟩ := elAt_cells HY.out
  have HL := Aside0.mk hl
  have hz1 : (1024 : Int) < (s.size : Int) := by omega
  clear hl
  go_enter Try.func3, Try.ntmps3
  go_wp2_with (first
    | (go_at_call 8; go_must (refine (halyardlaw28_Long.calls 300 (some ⟨w.heap.size + 1 + 1, 0, none⟩) 2 [x, y] false _ (C_of_blk (l := [x, y]) (alloc_at _ (by simp)) (by simp) rfl) (Nat.le_refl _) HL.out).mono ?_); go_must (rintro e w1 ⟨rfl, hd⟩; have hb := drawn_below hd; have HX_ := Aside0.mk (elAt_call (by repeat (first | (with_reducible exact HX.out) | (with_reducible apply ElAt.drew) | (with_reducible apply ElAt.alloc))) hb); have HY_ := Aside0.mk (elAt_call (by repeat (first | (with_reducible exact HY.out) | (with_reducible apply ElAt.drew) | (with_reducible apply ElAt.alloc))) hb); have HB_ := Aside0.mk (below_step (by repeat (first | (with_reducible first | exact HB.out | apply below_alloc | apply pw_below_drewN | apply below_drew1 | apply below_drew) | (refine Below.setCell ?_ (by first | (simp; done) | (simp; omega)) _))) hb); (try have HC_ := Aside0.mk (elAt_call (by repeat (first | (with_reducible exact HC.out) | (with_reducible apply ElAt.drew) | (with_reducible apply ElAt.alloc))) hb)); (try have HD_ := Aside0.mk (elAt_call (by repeat (first | (with_reducible exact HD.out) | (with_reducible apply ElAt.drew) | (with_reducible apply ElAt.alloc))) hb)); (try have HZ_ := Aside0.mk (elAt_call (by repeat (first | (with_reducible exact HZ.out) | (with_reducible apply ElAt.drew) | (with_reducible apply ElAt.alloc))) hb)); replace HX := HX_; replace HY := HY_; replace HB := HB_; clear HX_ HY_ HB_; (try (replace HC := HC_; clear HC_)); (try (replace HD := HD_; clear HD_)); (try (replace HZ := HZ_; clear HZ_)); clear x0 x1 x2 x3 x4 y0 y1 y2 y3 y4; obtain ⟨x0, x1, x2, x3, x4⟩ := elAt_cells HX.out; obtain ⟨y0, y1, y2, y3, y4⟩ := elAt_cells HY.out; have zz := HB.out.size; have zx := blk_lt HX.out; have zy := blk_lt HY.out; (try (clear c0 c1 c2 c3 c4; obtain ⟨c0, c1, c2, c3, c4⟩ := elAt_cells HC.out; have zc := blk_lt HC.out))); clear hb)
    | (go_at_call 9; go_must (refine (alive _).mono ?_); go_must (rintro e w20 ⟨rfl, hb⟩; have HB_ := Aside0.mk (below_step (by repeat (first | (with_reducible first | exact HB.out | apply below_alloc | apply pw_below_drewN | apply below_drew1 | apply below_drew) | (refine Below.setCell ?_ (by first | (simp; done) | (simp; omega)) _))) hb); replace HB := HB_; clear HB_); clear hb))
  go_ret
  exact ⟨rfl, HB.out⟩
set_option maxRecDepth 100000 in
set_option maxHeartbeats 8000000 in
theorem RecordBytes_ok (x y : El) (s : ByteArray) (w : World) (hs : s.size ≤ 140737488351232) (ax : 0 ≤ x.f3 ∧ x.f3 < 4294967296) (ay : 0 ≤ y.f3 ∧ y.f3 < 4294967296) (hl : halyardlaw28_Long.f 300 [x, y] = some false) (hz : s.size ≤ 1024) :
    Calls Try.prog 3 #[.agg #[.string x.f0, .string x.f1, .string x.f2, .int .u32 x.f3, .bool x.f4], .agg #[.string y.f0, .string y.f1, .string y.f2, .int .u32 y.f3, .bool y.f4], .string s] w (AliveRet w) := by
  have HB := Aside0.mk (Below.refl w.heap.size w)
  have HX := Aside0.mk (elAt_new w x)
  have HY := Aside0.mk (elAt_at (W := w.alloc (Obj.cells #[.string x.f0, .string x.f1, .string x.f2, .int .u32 x.f3, .bool x.f4] 24)) (B := w.heap.size + 1) y (by simp))
  replace HX := Aside0.mk (HX.out.alloc (Obj.cells #[.string y.f0, .string y.f1, .string y.f2, .int .u32 y.f3, .bool y.f4] 24))
  have huE := Try.underlying24
  obtain ⟨x0, x1, x2, x3, x4⟩ := elAt_cells HX.out
  obtain ⟨y0, y1, y2, y3, y4⟩ := elAt_cells HY.out
  have HL := Aside0.mk hl
  have hz1 : ¬ (1024 : Int) < (s.size : Int) := by omega
  obtain ⟨⟨ta, ke⟩, hbx⟩ : ∃ p, bytesK x = p := ⟨_, rfl⟩
  obtain ⟨⟨tt, ki⟩, hby⟩ : ∃ p, bytesK y = p := ⟨_, rfl⟩
  obtain ⟨⟨cs, kg⟩, hrs⟩ : ∃ p, readK s = p := ⟨_, rfl⟩
  have HBX := Aside0.mk (show record_Bytes.f x.f0 x.f1 x.f2 x.f3 x.f4 = some (ta, ke) by rw [bytes_val, hbx])
  have HRX := Aside0.mk (show halyardref28_Bytes.f 9 x.f0 x.f1 x.f2 x.f3 x.f4 = some (ta, ke) by rw [refBytes_val x ax.1 ax.2, hbx])
  have HBY := Aside0.mk (show record_Bytes.f y.f0 y.f1 y.f2 y.f3 y.f4 = some (tt, ki) by rw [bytes_val, hby])
  have HRS := Aside0.mk hrs
  have HKX := Aside0.mk hbx
  have HKY := Aside0.mk hby
  have tok1 : True := trivial
  have tok2 : True := trivial
  clear hl hbx hby hrs
  go_enter Try.func3, Try.ntmps3
  go_upto_region 8 with (first
    | (go_at_call 8; go_must (refine (halyardlaw28_Long.calls 300 (some ⟨w.heap.size + 1 + 1, 0, none⟩) 2 [x, y] false _ (C_of_blk (l := [x, y]) (alloc_at _ (by simp)) (by simp) rfl) (Nat.le_refl _) HL.out).mono ?_); go_must (rintro e w1 ⟨rfl, hd⟩; have hb := drawn_below hd; have HX_ := Aside0.mk (elAt_call (by repeat (first | (with_reducible exact HX.out) | (with_reducible apply ElAt.drew) | (with_reducible apply ElAt.alloc))) hb); have HY_ := Aside0.mk (elAt_call (by repeat (first | (with_reducible exact HY.out) | (with_reducible apply ElAt.drew) | (with_reducible apply ElAt.alloc))) hb); have HB_ := Aside0.mk (below_step (by repeat (first | (with_reducible first | exact HB.out | apply below_alloc | apply pw_below_drewN | apply below_drew1 | apply below_drew) | (refine Below.setCell ?_ (by first | (simp; done) | (simp; omega)) _))) hb); (try have HC_ := Aside0.mk (elAt_call (by repeat (first | (with_reducible exact HC.out) | (with_reducible apply ElAt.drew) | (with_reducible apply ElAt.alloc))) hb)); (try have HD_ := Aside0.mk (elAt_call (by repeat (first | (with_reducible exact HD.out) | (with_reducible apply ElAt.drew) | (with_reducible apply ElAt.alloc))) hb)); (try have HZ_ := Aside0.mk (elAt_call (by repeat (first | (with_reducible exact HZ.out) | (with_reducible apply ElAt.drew) | (with_reducible apply ElAt.alloc))) hb)); replace HX := HX_; replace HY := HY_; replace HB := HB_; clear HX_ HY_ HB_; (try (replace HC := HC_; clear HC_)); (try (replace HD := HD_; clear HD_)); (try (replace HZ := HZ_; clear HZ_)); clear x0 x1 x2 x3 x4 y0 y1 y2 y3 y4; obtain ⟨x0, x1, x2, x3, x4⟩ := elAt_cells HX.out; obtain ⟨y0, y1, y2, y3, y4⟩ := elAt_cells HY.out; have zz := HB.out.size; have zx := blk_lt HX.out; have zy := blk_lt HY.out; (try (clear c0 c1 c2 c3 c4; obtain ⟨c0, c1, c2, c3, c4⟩ := elAt_cells HC.out; have zc := blk_lt HC.out))); clear hb)
    | (go_at_call 10; have t_ := tok1; go_must (refine (record_Bytes.calls _ _ _ _ _ ta ke _ HBX.out).mono ?_); go_must (rintro e w2 ⟨rfl, hb⟩; have HX_ := Aside0.mk (elAt_call (by repeat (first | (with_reducible exact HX.out) | (with_reducible apply ElAt.drew) | (with_reducible apply ElAt.alloc))) hb); have HY_ := Aside0.mk (elAt_call (by repeat (first | (with_reducible exact HY.out) | (with_reducible apply ElAt.drew) | (with_reducible apply ElAt.alloc))) hb); have HB_ := Aside0.mk (below_step (by repeat (first | (with_reducible first | exact HB.out | apply below_alloc | apply pw_below_drewN | apply below_drew1 | apply below_drew) | (refine Below.setCell ?_ (by first | (simp; done) | (simp; omega)) _))) hb); (try have HC_ := Aside0.mk (elAt_call (by repeat (first | (with_reducible exact HC.out) | (with_reducible apply ElAt.drew) | (with_reducible apply ElAt.alloc))) hb)); (try have HD_ := Aside0.mk (elAt_call (by repeat (first | (with_reducible exact HD.out) | (with_reducible apply ElAt.drew) | (with_reducible apply ElAt.alloc))) hb)); (try have HZ_ := Aside0.mk (elAt_call (by repeat (first | (with_reducible exact HZ.out) | (with_reducible apply ElAt.drew) | (with_reducible apply ElAt.alloc))) hb)); replace HX := HX_; replace HY := HY_; replace HB := HB_; clear HX_ HY_ HB_; (try (replace HC := HC_; clear HC_)); (try (replace HD := HD_; clear HD_)); (try (replace HZ := HZ_; clear HZ_)); clear x0 x1 x2 x3 x4 y0 y1 y2 y3 y4; obtain ⟨x0, x1, x2, x3, x4⟩ := elAt_cells HX.out; obtain ⟨y0, y1, y2, y3, y4⟩ := elAt_cells HY.out; have zz := HB.out.size; have zx := blk_lt HX.out; have zy := blk_lt HY.out; (try (clear c0 c1 c2 c3 c4; obtain ⟨c0, c1, c2, c3, c4⟩ := elAt_cells HC.out; have zc := blk_lt HC.out))); clear hb tok1)
    | (go_at_call 11; go_must (refine (halyardref28_Bytes.calls 9 _ _ _ _ _ ta ke _ HRX.out).mono ?_); go_must (rintro e w3 ⟨rfl, hb⟩; have HX_ := Aside0.mk (elAt_call (by repeat (first | (with_reducible exact HX.out) | (with_reducible apply ElAt.drew) | (with_reducible apply ElAt.alloc))) hb); have HY_ := Aside0.mk (elAt_call (by repeat (first | (with_reducible exact HY.out) | (with_reducible apply ElAt.drew) | (with_reducible apply ElAt.alloc))) hb); have HB_ := Aside0.mk (below_step (by repeat (first | (with_reducible first | exact HB.out | apply below_alloc | apply pw_below_drewN | apply below_drew1 | apply below_drew) | (refine Below.setCell ?_ (by first | (simp; done) | (simp; omega)) _))) hb); (try have HC_ := Aside0.mk (elAt_call (by repeat (first | (with_reducible exact HC.out) | (with_reducible apply ElAt.drew) | (with_reducible apply ElAt.alloc))) hb)); (try have HD_ := Aside0.mk (elAt_call (by repeat (first | (with_reducible exact HD.out) | (with_reducible apply ElAt.drew) | (with_reducible apply ElAt.alloc))) hb)); (try have HZ_ := Aside0.mk (elAt_call (by repeat (first | (with_reducible exact HZ.out) | (with_reducible apply ElAt.drew) | (with_reducible apply ElAt.alloc))) hb)); replace HX := HX_; replace HY := HY_; replace HB := HB_; clear HX_ HY_ HB_; (try (replace HC := HC_; clear HC_)); (try (replace HD := HD_; clear HD_)); (try (replace HZ := HZ_; clear HZ_)); clear x0 x1 x2 x3 x4 y0 y1 y2 y3 y4; obtain ⟨x0, x1, x2, x3, x4⟩ := elAt_cells HX.out; obtain ⟨y0, y1, y2, y3, y4⟩ := elAt_cells HY.out; have zz := HB.out.size; have zx := blk_lt HX.out; have zy := blk_lt HY.out; (try (clear c0 c1 c2 c3 c4; obtain ⟨c0, c1, c2, c3, c4⟩ := elAt_cells HC.out; have zc := blk_lt HC.out))); clear hb)
    | (go_at_call 12; have t_ := tok2; go_must (refine (ReadIs hs HRS.out).mono ?_); go_must (rintro e w4 ⟨rfl, hb⟩; have HX_ := Aside0.mk (elAt_call (by repeat (first | (with_reducible exact HX.out) | (with_reducible apply ElAt.drew) | (with_reducible apply ElAt.alloc))) hb); have HY_ := Aside0.mk (elAt_call (by repeat (first | (with_reducible exact HY.out) | (with_reducible apply ElAt.drew) | (with_reducible apply ElAt.alloc))) hb); have HB_ := Aside0.mk (below_step (by repeat (first | (with_reducible first | exact HB.out | apply below_alloc | apply pw_below_drewN | apply below_drew1 | apply below_drew) | (refine Below.setCell ?_ (by first | (simp; done) | (simp; omega)) _))) hb); (try have HC_ := Aside0.mk (elAt_call (by repeat (first | (with_reducible exact HC.out) | (with_reducible apply ElAt.drew) | (with_reducible apply ElAt.alloc))) hb)); (try have HD_ := Aside0.mk (elAt_call (by repeat (first | (with_reducible exact HD.out) | (with_reducible apply ElAt.drew) | (with_reducible apply ElAt.alloc))) hb)); (try have HZ_ := Aside0.mk (elAt_call (by repeat (first | (with_reducible exact HZ.out) | (with_reducible apply ElAt.drew) | (with_reducible apply ElAt.alloc))) hb)); replace HX := HX_; replace HY := HY_; replace HB := HB_; clear HX_ HY_ HB_; (try (replace HC := HC_; clear HC_)); (try (replace HD := HD_; clear HD_)); (try (replace HZ := HZ_; clear HZ_)); clear x0 x1 x2 x3 x4 y0 y1 y2 y3 y4; obtain ⟨x0, x1, x2, x3, x4⟩ := elAt_cells HX.out; obtain ⟨y0, y1, y2, y3, y4⟩ := elAt_cells HY.out; have zz := HB.out.size; have zx := blk_lt HX.out; have zy := blk_lt HY.out; (try (clear c0 c1 c2 c3 c4; obtain ⟨c0, c1, c2, c3, c4⟩ := elAt_cells HC.out; have zc := blk_lt HC.out))); clear hb tok2)
    | (go_at_call 13; go_must (refine (RefReadIs hs HRS.out).mono ?_); go_must (rintro e w5 ⟨rfl, hb⟩; have HX_ := Aside0.mk (elAt_call (by repeat (first | (with_reducible exact HX.out) | (with_reducible apply ElAt.drew) | (with_reducible apply ElAt.alloc))) hb); have HY_ := Aside0.mk (elAt_call (by repeat (first | (with_reducible exact HY.out) | (with_reducible apply ElAt.drew) | (with_reducible apply ElAt.alloc))) hb); have HB_ := Aside0.mk (below_step (by repeat (first | (with_reducible first | exact HB.out | apply below_alloc | apply pw_below_drewN | apply below_drew1 | apply below_drew) | (refine Below.setCell ?_ (by first | (simp; done) | (simp; omega)) _))) hb); (try have HC_ := Aside0.mk (elAt_call (by repeat (first | (with_reducible exact HC.out) | (with_reducible apply ElAt.drew) | (with_reducible apply ElAt.alloc))) hb)); (try have HD_ := Aside0.mk (elAt_call (by repeat (first | (with_reducible exact HD.out) | (with_reducible apply ElAt.drew) | (with_reducible apply ElAt.alloc))) hb)); (try have HZ_ := Aside0.mk (elAt_call (by repeat (first | (with_reducible exact HZ.out) | (with_reducible apply ElAt.drew) | (with_reducible apply ElAt.alloc))) hb)); have HC := Aside0.mk (elAt_call (elAt_new w4 cs) hb); replace HX := HX_; replace HY := HY_; replace HB := HB_; clear HX_ HY_ HB_; (try (replace HC := HC_; clear HC_)); (try (replace HD := HD_; clear HD_)); (try (replace HZ := HZ_; clear HZ_)); clear x0 x1 x2 x3 x4 y0 y1 y2 y3 y4; obtain ⟨x0, x1, x2, x3, x4⟩ := elAt_cells HX.out; obtain ⟨y0, y1, y2, y3, y4⟩ := elAt_cells HY.out; have zz := HB.out.size; have zx := blk_lt HX.out; have zy := blk_lt HY.out; (try (clear c0 c1 c2 c3 c4; obtain ⟨c0, c1, c2, c3, c4⟩ := elAt_cells HC.out; have zc := blk_lt HC.out))); clear hb)
    | (go_at_call 10; go_must (refine (record_Bytes.calls _ _ _ _ _ tt ki _ HBY.out).mono ?_); go_must (rintro e w6 ⟨rfl, hb⟩; have HX_ := Aside0.mk (elAt_call (by repeat (first | (with_reducible exact HX.out) | (with_reducible apply ElAt.drew) | (with_reducible apply ElAt.alloc))) hb); have HY_ := Aside0.mk (elAt_call (by repeat (first | (with_reducible exact HY.out) | (with_reducible apply ElAt.drew) | (with_reducible apply ElAt.alloc))) hb); have HB_ := Aside0.mk (below_step (by repeat (first | (with_reducible first | exact HB.out | apply below_alloc | apply pw_below_drewN | apply below_drew1 | apply below_drew) | (refine Below.setCell ?_ (by first | (simp; done) | (simp; omega)) _))) hb); (try have HC_ := Aside0.mk (elAt_call (by repeat (first | (with_reducible exact HC.out) | (with_reducible apply ElAt.drew) | (with_reducible apply ElAt.alloc))) hb)); (try have HD_ := Aside0.mk (elAt_call (by repeat (first | (with_reducible exact HD.out) | (with_reducible apply ElAt.drew) | (with_reducible apply ElAt.alloc))) hb)); (try have HZ_ := Aside0.mk (elAt_call (by repeat (first | (with_reducible exact HZ.out) | (with_reducible apply ElAt.drew) | (with_reducible apply ElAt.alloc))) hb)); have HD := Aside0.mk (elAt_call (elAt_new w5 cs) hb); replace HX := HX_; replace HY := HY_; replace HB := HB_; clear HX_ HY_ HB_; (try (replace HC := HC_; clear HC_)); (try (replace HD := HD_; clear HD_)); (try (replace HZ := HZ_; clear HZ_)); clear x0 x1 x2 x3 x4 y0 y1 y2 y3 y4; obtain ⟨x0, x1, x2, x3, x4⟩ := elAt_cells HX.out; obtain ⟨y0, y1, y2, y3, y4⟩ := elAt_cells HY.out; have zz := HB.out.size; have zx := blk_lt HX.out; have zy := blk_lt HY.out; (try (clear c0 c1 c2 c3 c4; obtain ⟨c0, c1, c2, c3, c4⟩ := elAt_cells HC.out; have zc := blk_lt HC.out))); clear hb))
  obtain ⟨c0, c1, c2, c3, c4⟩ := elAt_cells HC.out
  obtain ⟨d0, d1, d2, d3, d4⟩ := elAt_cells HD.out
  go_upto_if 75 with fail
  go_cut [18] (fun v18 wx => Aside0 (Below w.heap.size w wx) ∧ Aside0 (ElAt wx w4.heap.size cs))
  case first =>
    by_cases hke : ke = 0
    · subst hke
      have hox : okS x = true ∧ ta = encS x := by
        have z := HKX.out
        unfold bytesK at z
        split at z
        · rename_i h; injection z with z1 z2; exact ⟨h, z1.symm⟩
        · injection z with z1 z2; exact absurd z2 (by decide)
      have HRZ := Aside0.mk (show readK ta = (x, 0) by rw [hox.2]; exact read_enc hox.1 ax.1 ax.2)
      have HSZ := Aside0.mk (show ta.size ≤ 140737488351232 by rw [hox.2, encS_size]; have := ok_sizes hox.1; omega)
      have HOX := Aside0.mk hox
      clear hox
      by_cases hki : ki = 0
      · subst hki
        have hoy : okS y = true ∧ tt = encS y := by
          have z := HKY.out
          unfold bytesK at z
          split at z
          · rename_i h; injection z with z1 z2; exact ⟨h, z1.symm⟩
          · injection z with z1 z2; exact absurd z2 (by decide)
        by_cases hxy : x = y
        · subst hxy
          obtain rfl : ta = tt := by rw [HOX.out.2, hoy.2]
          clear hoy
          go_wp2_with (go_at_call 12; go_must (refine (ReadIs HSZ.out HRZ.out).mono ?_); go_must (rintro e w7 ⟨rfl, hb⟩; have HX_ := Aside0.mk (elAt_call (by repeat (first | (with_reducible exact HX.out) | (with_reducible apply ElAt.drew) | (with_reducible apply ElAt.alloc))) hb); have HY_ := Aside0.mk (elAt_call (by repeat (first | (with_reducible exact HY.out) | (with_reducible apply ElAt.drew) | (with_reducible apply ElAt.alloc))) hb); have HB_ := Aside0.mk (below_step (by repeat (first | (with_reducible first | exact HB.out | apply below_alloc | apply pw_below_drewN | apply below_drew1 | apply below_drew) | (refine Below.setCell ?_ (by first | (simp; done) | (simp; omega)) _))) hb); (try have HC_ := Aside0.mk (elAt_call (by repeat (first | (with_reducible exact HC.out) | (with_reducible apply ElAt.drew) | (with_reducible apply ElAt.alloc))) hb)); (try have HD_ := Aside0.mk (elAt_call (by repeat (first | (with_reducible exact HD.out) | (with_reducible apply ElAt.drew) | (with_reducible apply ElAt.alloc))) hb)); (try have HZ_ := Aside0.mk (elAt_call (by repeat (first | (with_reducible exact HZ.out) | (with_reducible apply ElAt.drew) | (with_reducible apply ElAt.alloc))) hb)); replace HX := HX_; replace HY := HY_; replace HB := HB_; clear HX_ HY_ HB_; (try (replace HC := HC_; clear HC_)); (try (replace HD := HD_; clear HD_)); (try (replace HZ := HZ_; clear HZ_)); clear x0 x1 x2 x3 x4 y0 y1 y2 y3 y4; obtain ⟨x0, x1, x2, x3, x4⟩ := elAt_cells HX.out; obtain ⟨y0, y1, y2, y3, y4⟩ := elAt_cells HY.out; have zz := HB.out.size; have zx := blk_lt HX.out; have zy := blk_lt HY.out; (try (clear c0 c1 c2 c3 c4; obtain ⟨c0, c1, c2, c3, c4⟩ := elAt_cells HC.out; have zc := blk_lt HC.out))); clear hb)
          go_meet
          exact ⟨⟨(by repeat (first | (with_reducible first | exact HB.out | apply below_alloc | apply pw_below_drewN | apply below_drew1 | apply below_drew) | (refine Below.setCell ?_ (by first | (simp; done) | (simp; omega)) _)))⟩, ⟨(by repeat (first | (with_reducible exact HC.out) | (with_reducible apply ElAt.drew) | (with_reducible apply ElAt.alloc)))⟩⟩
        · have hne := Aside0.mk hxy
          have htt : ¬ ta = tt := fun e => hxy (enc_inj2 HOX.out.1 hoy.1 ax.1 ax.2 ay.1 ay.2 (by rw [← HOX.out.2, ← hoy.2, e]))
          obtain ⟨t1, t2⟩ := str_nes' htt
          clear hoy hxy htt
          by_cases h0 : x.f0 = y.f0
          · obtain ⟨p0, r0⟩ := str_eqs' h0
            by_cases h1 : x.f1 = y.f1
            · obtain ⟨p1, r1⟩ := str_eqs' h1
              by_cases h2 : x.f2 = y.f2
              · obtain ⟨p2, r2⟩ := str_eqs' h2
                by_cases h3 : x.f3 = y.f3
                · have p3 : (x.f3 == y.f3) = true := beq_iff_eq.mpr h3
                  have h4 : ¬ x.f4 = y.f4 := fun h4 => hne.out (el_ext h0 h1 h2 h3 h4)
                  have p4 : (x.f4 == y.f4) = false := beq_eq_false_iff_ne.mpr h4
                  clear h0 h1 h2 h3 h4
                  go_wp2_with (go_at_call 12; go_must (refine (ReadIs HSZ.out HRZ.out).mono ?_); go_must (rintro e w7 ⟨rfl, hb⟩; have HX_ := Aside0.mk (elAt_call (by repeat (first | (with_reducible exact HX.out) | (with_reducible apply ElAt.drew) | (with_reducible apply ElAt.alloc))) hb); have HY_ := Aside0.mk (elAt_call (by repeat (first | (with_reducible exact HY.out) | (with_reducible apply ElAt.drew) | (with_reducible apply ElAt.alloc))) hb); have HB_ := Aside0.mk (below_step (by repeat (first | (with_reducible first | exact HB.out | apply below_alloc | apply pw_below_drewN | apply below_drew1 | apply below_drew) | (refine Below.setCell ?_ (by first | (simp; done) | (simp; omega)) _))) hb); (try have HC_ := Aside0.mk (elAt_call (by repeat (first | (with_reducible exact HC.out) | (with_reducible apply ElAt.drew) | (with_reducible apply ElAt.alloc))) hb)); (try have HD_ := Aside0.mk (elAt_call (by repeat (first | (with_reducible exact HD.out) | (with_reducible apply ElAt.drew) | (with_reducible apply ElAt.alloc))) hb)); (try have HZ_ := Aside0.mk (elAt_call (by repeat (first | (with_reducible exact HZ.out) | (with_reducible apply ElAt.drew) | (with_reducible apply ElAt.alloc))) hb)); replace HX := HX_; replace HY := HY_; replace HB := HB_; clear HX_ HY_ HB_; (try (replace HC := HC_; clear HC_)); (try (replace HD := HD_; clear HD_)); (try (replace HZ := HZ_; clear HZ_)); clear x0 x1 x2 x3 x4 y0 y1 y2 y3 y4; obtain ⟨x0, x1, x2, x3, x4⟩ := elAt_cells HX.out; obtain ⟨y0, y1, y2, y3, y4⟩ := elAt_cells HY.out; have zz := HB.out.size; have zx := blk_lt HX.out; have zy := blk_lt HY.out; (try (clear c0 c1 c2 c3 c4; obtain ⟨c0, c1, c2, c3, c4⟩ := elAt_cells HC.out; have zc := blk_lt HC.out))); clear hb)
                  go_meet
                  exact ⟨⟨(by repeat (first | (with_reducible first | exact HB.out | apply below_alloc | apply pw_below_drewN | apply below_drew1 | apply below_drew) | (refine Below.setCell ?_ (by first | (simp; done) | (simp; omega)) _)))⟩, ⟨(by repeat (first | (with_reducible exact HC.out) | (with_reducible apply ElAt.drew) | (with_reducible apply ElAt.alloc)))⟩⟩
                · have p3 : (x.f3 == y.f3) = false := beq_eq_false_iff_ne.mpr h3
                  clear h0 h1 h2 h3
                  go_wp2_with (go_at_call 12; go_must (refine (ReadIs HSZ.out HRZ.out).mono ?_); go_must (rintro e w7 ⟨rfl, hb⟩; have HX_ := Aside0.mk (elAt_call (by repeat (first | (with_reducible exact HX.out) | (with_reducible apply ElAt.drew) | (with_reducible apply ElAt.alloc))) hb); have HY_ := Aside0.mk (elAt_call (by repeat (first | (with_reducible exact HY.out) | (with_reducible apply ElAt.drew) | (with_reducible apply ElAt.alloc))) hb); have HB_ := Aside0.mk (below_step (by repeat (first | (with_reducible first | exact HB.out | apply below_alloc | apply pw_below_drewN | apply below_drew1 | apply below_drew) | (refine Below.setCell ?_ (by first | (simp; done) | (simp; omega)) _))) hb); (try have HC_ := Aside0.mk (elAt_call (by repeat (first | (with_reducible exact HC.out) | (with_reducible apply ElAt.drew) | (with_reducible apply ElAt.alloc))) hb)); (try have HD_ := Aside0.mk (elAt_call (by repeat (first | (with_reducible exact HD.out) | (with_reducible apply ElAt.drew) | (with_reducible apply ElAt.alloc))) hb)); (try have HZ_ := Aside0.mk (elAt_call (by repeat (first | (with_reducible exact HZ.out) | (with_reducible apply ElAt.drew) | (with_reducible apply ElAt.alloc))) hb)); replace HX := HX_; replace HY := HY_; replace HB := HB_; clear HX_ HY_ HB_; (try (replace HC := HC_; clear HC_)); (try (replace HD := HD_; clear HD_)); (try (replace HZ := HZ_; clear HZ_)); clear x0 x1 x2 x3 x4 y0 y1 y2 y3 y4; obtain ⟨x0, x1, x2, x3, x4⟩ := elAt_cells HX.out; obtain ⟨y0, y1, y2, y3, y4⟩ := elAt_cells HY.out; have zz := HB.out.size; have zx := blk_lt HX.out; have zy := blk_lt HY.out; (try (clear c0 c1 c2 c3 c4; obtain ⟨c0, c1, c2, c3, c4⟩ := elAt_cells HC.out; have zc := blk_lt HC.out))); clear hb)
                  go_meet
                  exact ⟨⟨(by repeat (first | (with_reducible first | exact HB.out | apply below_alloc | apply pw_below_drewN | apply below_drew1 | apply below_drew) | (refine Below.setCell ?_ (by first | (simp; done) | (simp; omega)) _)))⟩, ⟨(by repeat (first | (with_reducible exact HC.out) | (with_reducible apply ElAt.drew) | (with_reducible apply ElAt.alloc)))⟩⟩
              · obtain ⟨p2, r2⟩ := str_nes' h2
                clear h0 h1 h2
                go_wp2_with (go_at_call 12; go_must (refine (ReadIs HSZ.out HRZ.out).mono ?_); go_must (rintro e w7 ⟨rfl, hb⟩; have HX_ := Aside0.mk (elAt_call (by repeat (first | (with_reducible exact HX.out) | (with_reducible apply ElAt.drew) | (with_reducible apply ElAt.alloc))) hb); have HY_ := Aside0.mk (elAt_call (by repeat (first | (with_reducible exact HY.out) | (with_reducible apply ElAt.drew) | (with_reducible apply ElAt.alloc))) hb); have HB_ := Aside0.mk (below_step (by repeat (first | (with_reducible first | exact HB.out | apply below_alloc | apply pw_below_drewN | apply below_drew1 | apply below_drew) | (refine Below.setCell ?_ (by first | (simp; done) | (simp; omega)) _))) hb); (try have HC_ := Aside0.mk (elAt_call (by repeat (first | (with_reducible exact HC.out) | (with_reducible apply ElAt.drew) | (with_reducible apply ElAt.alloc))) hb)); (try have HD_ := Aside0.mk (elAt_call (by repeat (first | (with_reducible exact HD.out) | (with_reducible apply ElAt.drew) | (with_reducible apply ElAt.alloc))) hb)); (try have HZ_ := Aside0.mk (elAt_call (by repeat (first | (with_reducible exact HZ.out) | (with_reducible apply ElAt.drew) | (with_reducible apply ElAt.alloc))) hb)); replace HX := HX_; replace HY := HY_; replace HB := HB_; clear HX_ HY_ HB_; (try (replace HC := HC_; clear HC_)); (try (replace HD := HD_; clear HD_)); (try (replace HZ := HZ_; clear HZ_)); clear x0 x1 x2 x3 x4 y0 y1 y2 y3 y4; obtain ⟨x0, x1, x2, x3, x4⟩ := elAt_cells HX.out; obtain ⟨y0, y1, y2, y3, y4⟩ := elAt_cells HY.out; have zz := HB.out.size; have zx := blk_lt HX.out; have zy := blk_lt HY.out; (try (clear c0 c1 c2 c3 c4; obtain ⟨c0, c1, c2, c3, c4⟩ := elAt_cells HC.out; have zc := blk_lt HC.out))); clear hb)
                go_meet
                exact ⟨⟨(by repeat (first | (with_reducible first | exact HB.out | apply below_alloc | apply pw_below_drewN | apply below_drew1 | apply below_drew) | (refine Below.setCell ?_ (by first | (simp; done) | (simp; omega)) _)))⟩, ⟨(by repeat (first | (with_reducible exact HC.out) | (with_reducible apply ElAt.drew) | (with_reducible apply ElAt.alloc)))⟩⟩
            · obtain ⟨p1, r1⟩ := str_nes' h1
              clear h0 h1
              go_wp2_with (go_at_call 12; go_must (refine (ReadIs HSZ.out HRZ.out).mono ?_); go_must (rintro e w7 ⟨rfl, hb⟩; have HX_ := Aside0.mk (elAt_call (by repeat (first | (with_reducible exact HX.out) | (with_reducible apply ElAt.drew) | (with_reducible apply ElAt.alloc))) hb); have HY_ := Aside0.mk (elAt_call (by repeat (first | (with_reducible exact HY.out) | (with_reducible apply ElAt.drew) | (with_reducible apply ElAt.alloc))) hb); have HB_ := Aside0.mk (below_step (by repeat (first | (with_reducible first | exact HB.out | apply below_alloc | apply pw_below_drewN | apply below_drew1 | apply below_drew) | (refine Below.setCell ?_ (by first | (simp; done) | (simp; omega)) _))) hb); (try have HC_ := Aside0.mk (elAt_call (by repeat (first | (with_reducible exact HC.out) | (with_reducible apply ElAt.drew) | (with_reducible apply ElAt.alloc))) hb)); (try have HD_ := Aside0.mk (elAt_call (by repeat (first | (with_reducible exact HD.out) | (with_reducible apply ElAt.drew) | (with_reducible apply ElAt.alloc))) hb)); (try have HZ_ := Aside0.mk (elAt_call (by repeat (first | (with_reducible exact HZ.out) | (with_reducible apply ElAt.drew) | (with_reducible apply ElAt.alloc))) hb)); replace HX := HX_; replace HY := HY_; replace HB := HB_; clear HX_ HY_ HB_; (try (replace HC := HC_; clear HC_)); (try (replace HD := HD_; clear HD_)); (try (replace HZ := HZ_; clear HZ_)); clear x0 x1 x2 x3 x4 y0 y1 y2 y3 y4; obtain ⟨x0, x1, x2, x3, x4⟩ := elAt_cells HX.out; obtain ⟨y0, y1, y2, y3, y4⟩ := elAt_cells HY.out; have zz := HB.out.size; have zx := blk_lt HX.out; have zy := blk_lt HY.out; (try (clear c0 c1 c2 c3 c4; obtain ⟨c0, c1, c2, c3, c4⟩ := elAt_cells HC.out; have zc := blk_lt HC.out))); clear hb)
              go_meet
              exact ⟨⟨(by repeat (first | (with_reducible first | exact HB.out | apply below_alloc | apply pw_below_drewN | apply below_drew1 | apply below_drew) | (refine Below.setCell ?_ (by first | (simp; done) | (simp; omega)) _)))⟩, ⟨(by repeat (first | (with_reducible exact HC.out) | (with_reducible apply ElAt.drew) | (with_reducible apply ElAt.alloc)))⟩⟩
          · obtain ⟨p0, r0⟩ := str_nes' h0
            clear h0
            go_wp2_with (go_at_call 12; go_must (refine (ReadIs HSZ.out HRZ.out).mono ?_); go_must (rintro e w7 ⟨rfl, hb⟩; have HX_ := Aside0.mk (elAt_call (by repeat (first | (with_reducible exact HX.out) | (with_reducible apply ElAt.drew) | (with_reducible apply ElAt.alloc))) hb); have HY_ := Aside0.mk (elAt_call (by repeat (first | (with_reducible exact HY.out) | (with_reducible apply ElAt.drew) | (with_reducible apply ElAt.alloc))) hb); have HB_ := Aside0.mk (below_step (by repeat (first | (with_reducible first | exact HB.out | apply below_alloc | apply pw_below_drewN | apply below_drew1 | apply below_drew) | (refine Below.setCell ?_ (by first | (simp; done) | (simp; omega)) _))) hb); (try have HC_ := Aside0.mk (elAt_call (by repeat (first | (with_reducible exact HC.out) | (with_reducible apply ElAt.drew) | (with_reducible apply ElAt.alloc))) hb)); (try have HD_ := Aside0.mk (elAt_call (by repeat (first | (with_reducible exact HD.out) | (with_reducible apply ElAt.drew) | (with_reducible apply ElAt.alloc))) hb)); (try have HZ_ := Aside0.mk (elAt_call (by repeat (first | (with_reducible exact HZ.out) | (with_reducible apply ElAt.drew) | (with_reducible apply ElAt.alloc))) hb)); replace HX := HX_; replace HY := HY_; replace HB := HB_; clear HX_ HY_ HB_; (try (replace HC := HC_; clear HC_)); (try (replace HD := HD_; clear HD_)); (try (replace HZ := HZ_; clear HZ_)); clear x0 x1 x2 x3 x4 y0 y1 y2 y3 y4; obtain ⟨x0, x1, x2, x3, x4⟩ := elAt_cells HX.out; obtain ⟨y0, y1, y2, y3, y4⟩ := elAt_cells HY.out; have zz := HB.out.size; have zx := blk_lt HX.out; have zy := blk_lt HY.out; (try (clear c0 c1 c2 c3 c4; obtain ⟨c0, c1, c2, c3, c4⟩ := elAt_cells HC.out; have zc := blk_lt HC.out))); clear hb)
            go_meet
            exact ⟨⟨(by repeat (first | (with_reducible first | exact HB.out | apply below_alloc | apply pw_below_drewN | apply below_drew1 | apply below_drew) | (refine Below.setCell ?_ (by first | (simp; done) | (simp; omega)) _)))⟩, ⟨(by repeat (first | (with_reducible exact HC.out) | (with_reducible apply ElAt.drew) | (with_reducible apply ElAt.alloc)))⟩⟩
      · have i1 : (ki == 0) = false := beq_eq_false_iff_ne.mpr hki
        go_wp2_with (go_at_call 12; go_must (refine (ReadIs HSZ.out HRZ.out).mono ?_); go_must (rintro e w7 ⟨rfl, hb⟩; have HX_ := Aside0.mk (elAt_call (by repeat (first | (with_reducible exact HX.out) | (with_reducible apply ElAt.drew) | (with_reducible apply ElAt.alloc))) hb); have HY_ := Aside0.mk (elAt_call (by repeat (first | (with_reducible exact HY.out) | (with_reducible apply ElAt.drew) | (with_reducible apply ElAt.alloc))) hb); have HB_ := Aside0.mk (below_step (by repeat (first | (with_reducible first | exact HB.out | apply below_alloc | apply pw_below_drewN | apply below_drew1 | apply below_drew) | (refine Below.setCell ?_ (by first | (simp; done) | (simp; omega)) _))) hb); (try have HC_ := Aside0.mk (elAt_call (by repeat (first | (with_reducible exact HC.out) | (with_reducible apply ElAt.drew) | (with_reducible apply ElAt.alloc))) hb)); (try have HD_ := Aside0.mk (elAt_call (by repeat (first | (with_reducible exact HD.out) | (with_reducible apply ElAt.drew) | (with_reducible apply ElAt.alloc))) hb)); (try have HZ_ := Aside0.mk (elAt_call (by repeat (first | (with_reducible exact HZ.out) | (with_reducible apply ElAt.drew) | (with_reducible apply ElAt.alloc))) hb)); replace HX := HX_; replace HY := HY_; replace HB := HB_; clear HX_ HY_ HB_; (try (replace HC := HC_; clear HC_)); (try (replace HD := HD_; clear HD_)); (try (replace HZ := HZ_; clear HZ_)); clear x0 x1 x2 x3 x4 y0 y1 y2 y3 y4; obtain ⟨x0, x1, x2, x3, x4⟩ := elAt_cells HX.out; obtain ⟨y0, y1, y2, y3, y4⟩ := elAt_cells HY.out; have zz := HB.out.size; have zx := blk_lt HX.out; have zy := blk_lt HY.out; (try (clear c0 c1 c2 c3 c4; obtain ⟨c0, c1, c2, c3, c4⟩ := elAt_cells HC.out; have zc := blk_lt HC.out))); clear hb)
        go_meet
        exact ⟨⟨(by repeat (first | (with_reducible first | exact HB.out | apply below_alloc | apply pw_below_drewN | apply below_drew1 | apply below_drew) | (refine Below.setCell ?_ (by first | (simp; done) | (simp; omega)) _)))⟩, ⟨(by repeat (first | (with_reducible exact HC.out) | (with_reducible apply ElAt.drew) | (with_reducible apply ElAt.alloc)))⟩⟩
    · have k1 : (ke == 0) = false := beq_eq_false_iff_ne.mpr hke
      go_wp2_with (go_at_call 12; go_must (refine (ReadIs HSZ.out HRZ.out).mono ?_); go_must (rintro e w7 ⟨rfl, hb⟩; have HX_ := Aside0.mk (elAt_call (by repeat (first | (with_reducible exact HX.out) | (with_reducible apply ElAt.drew) | (with_reducible apply ElAt.alloc))) hb); have HY_ := Aside0.mk (elAt_call (by repeat (first | (with_reducible exact HY.out) | (with_reducible apply ElAt.drew) | (with_reducible apply ElAt.alloc))) hb); have HB_ := Aside0.mk (below_step (by repeat (first | (with_reducible first | exact HB.out | apply below_alloc | apply pw_below_drewN | apply below_drew1 | apply below_drew) | (refine Below.setCell ?_ (by first | (simp; done) | (simp; omega)) _))) hb); (try have HC_ := Aside0.mk (elAt_call (by repeat (first | (with_reducible exact HC.out) | (with_reducible apply ElAt.drew) | (with_reducible apply ElAt.alloc))) hb)); (try have HD_ := Aside0.mk (elAt_call (by repeat (first | (with_reducible exact HD.out) | (with_reducible apply ElAt.drew) | (with_reducible apply ElAt.alloc))) hb)); (try have HZ_ := Aside0.mk (elAt_call (by repeat (first | (with_reducible exact HZ.out) | (with_reducible apply ElAt.drew) | (with_reducible apply ElAt.alloc))) hb)); replace HX := HX_; replace HY := HY_; replace HB := HB_; clear HX_ HY_ HB_; (try (replace HC := HC_; clear HC_)); (try (replace HD := HD_; clear HD_)); (try (replace HZ := HZ_; clear HZ_)); clear x0 x1 x2 x3 x4 y0 y1 y2 y3 y4; obtain ⟨x0, x1, x2, x3, x4⟩ := elAt_cells HX.out; obtain ⟨y0, y1, y2, y3, y4⟩ := elAt_cells HY.out; have zz := HB.out.size; have zx := blk_lt HX.out; have zy := blk_lt HY.out; (try (clear c0 c1 c2 c3 c4; obtain ⟨c0, c1, c2, c3, c4⟩ := elAt_cells HC.out; have zc := blk_lt HC.out))); clear hb)
      go_meet
      exact ⟨⟨(by repeat (first | (with_reducible first | exact HB.out | apply below_alloc | apply pw_below_drewN | apply below_drew1 | apply below_drew) | (refine Below.setCell ?_ (by first | (simp; done) | (simp; omega)) _)))⟩, ⟨(by repeat (first | (with_reducible exact HC.out) | (with_reducible apply ElAt.drew) | (with_reducible apply ElAt.alloc)))⟩⟩
  case rest =>
    obtain ⟨HB', HC'⟩ := hcut
    clear HB HC HD HX HY x0 x1 x2 x3 x4 y0 y1 y2 y3 y4 c0 c1 c2 c3 c4 d0 d1 d2 d3 d4
    have HB := HB'
    have HC := HC'
    clear HB' HC'
    obtain ⟨c0, c1, c2, c3, c4⟩ := elAt_cells HC.out
    by_cases hkg : kg = 0
    · subst hkg
      have hbk := read_back (by omega) HRS.out rfl
      have HBC := Aside0.mk (show record_Bytes.f cs.f0 cs.f1 cs.f2 cs.f3 cs.f4 = some (s, 0) by rw [bytes_val]; unfold bytesK; rw [if_pos hbk.1, hbk.2.1])
      clear hbk
      go_wp2_with (first
        | (go_at_call 10; go_must (refine (record_Bytes.calls _ _ _ _ _ s 0 _ HBC.out).mono ?_); go_must (rintro e w8 ⟨rfl, hb⟩; have HB_ := Aside0.mk (below_step HB.out hb); replace HB := HB_; clear HB_); clear hb)
        | (go_at_call 9; go_must (refine (alive _).mono ?_); go_must (rintro e w20 ⟨rfl, hb⟩; have HB_ := Aside0.mk (below_step (by repeat (first | (with_reducible first | exact HB.out | apply below_alloc | apply pw_below_drewN | apply below_drew1 | apply below_drew) | (refine Below.setCell ?_ (by first | (simp; done) | (simp; omega)) _))) hb); replace HB := HB_; clear HB_); clear hb))
      go_ret
      exact ⟨rfl, HB.out⟩
    · have g1 : (kg == 0) = false := beq_eq_false_iff_ne.mpr hkg
      go_wp2_with (go_at_call 9; go_must (refine (alive _).mono ?_); go_must (rintro e w20 ⟨rfl, hb⟩; have HB_ := Aside0.mk (below_step (by repeat (first | (with_reducible first | exact HB.out | apply below_alloc | apply pw_below_drewN | apply below_drew1 | apply below_drew) | (refine Below.setCell ?_ (by first | (simp; done) | (simp; omega)) _))) hb); replace HB := HB_; clear HB_); clear hb)
      go_ret
      exact ⟨rfl, HB.out⟩
theorem RecordBytes_run (x y : El) (s : ByteArray) (w : World) (hs : s.size ≤ 140737488351232) (ax : 0 ≤ x.f3 ∧ x.f3 < 4294967296) (ay : 0 ≤ y.f3 ∧ y.f3 < 4294967296) :
    Calls Try.prog 3 #[.agg #[.string x.f0, .string x.f1, .string x.f2, .int .u32 x.f3, .bool x.f4], .agg #[.string y.f0, .string y.f1, .string y.f2, .int .u32 y.f3, .bool y.f4], .string s] w (AliveRet w) := by
  obtain ⟨b, hb, _⟩ := long_val [x, y]
  cases b with
  | true => exact RecordBytes_long x y s w hs ax ay hb
  | false =>
    by_cases hz : s.size ≤ 1024
    · exact RecordBytes_ok x y s w hs ax ay hb hz
    · exact RecordBytes_big x y s w hs ax ay hb (by omega)

end Go.Proofs.YtmgpaccgjafjeaaHVR
