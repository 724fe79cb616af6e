/- record.Read. -/
import Derived.Test.YtmgpaccgjafjeaaHRec2
import Derived.Test.YtmgpaccgjafjeaaHOct
import Derived.Test.YtmgpaccgjafjeaaPG28x10
import Derived.Test.YtmgpaccgjafjeaaPG28x12
namespace Go.Proofs.YtmgpaccgjafjeaaHVR
open Go.RowKit Go.Maps Go.Sort Go.Shelf Go.Lib Go.Proofs.YtmgpaccgjafjeaaW.PrintWords Go.Proofs.YtmgpaccgjafjeaaHW Go.Proofs.YtmgpaccgjafjeaaHG Go.Proofs.Ytmgpaccgjafjeaa.PG28 Go.Proofs.YtmgpaccgjafjeaaHT
set_option linter.unusedVariables false
set_option linter.unusedSimpArgs false
/-- A text that stands ahead. -/
def rd (s : ByteArray) : Option (ByteArray × ByteArray) := match octet_Read8.f s with | some (t, more, e) => if e = 0 then some (t, more) else none | none => none
/-- The address of four bytes. -/
def adr (r : ByteArray) : Int := 16777216 * bt (r.extract 0 4) 0 + 65536 * bt (r.extract 0 4) 1 + 256 * bt (r.extract 0 4) 2 + bt (r.extract 0 4) 3
def subOf (n c p r : ByteArray) : El := ⟨n, c, p, adr r, bt r 4 == 1⟩
/-- What Read answers. -/
def lastK (n c p r : ByteArray) : El × Int := if r.size = 5 ∧ bt r 4 ≤ 1 ∧ okS (subOf n c p r) = true then (subOf n c p r, 0) else (z24, 7)
def readK (s : ByteArray) : El × Int := match rd s with
  | none => (z24, 7)
  | some (n, r1) => match rd r1 with
    | none => (z24, 7)
    | some (c, r2) => match rd r2 with
      | none => (z24, 7)
      | some (p, r3) => lastK n c p r3
theorem rd_some {s t r : ByteArray} (h : rd s = some (t, r)) : octet_Read8.f s = some (t, r, 0) := by
  unfold rd at h
  split at h
  · rename_i e
    split at h
    · rename_i e0; subst e0; cases h; assumption
    · exact absurd h (by simp)
  · exact absurd h (by simp)
theorem rd_none {s : ByteArray} (hs : s.size ≤ 9000000000000000000) (h : rd s = none) : octet_Read8.f s = some (⟨#[]⟩, ⟨#[]⟩, 6) := by
  rcases read8_val s hs with ⟨t, rest, h1, _⟩ | ⟨h1, _⟩
  · unfold rd at h; rw [h1] at h; exact absurd h (by simp)
  · exact h1
theorem rd_size {s t r : ByteArray} (hs : s.size ≤ 9000000000000000000) (h : rd s = some (t, r)) : t.size ≤ 255 ∧ s = enc1 t ++ r := by
  have h2 := rd_some h
  rcases read8_val s hs with ⟨t', rest, h1, h3, h4, _⟩ | ⟨h1, _⟩
  · rw [h1] at h2; cases h2; exact ⟨h3, h4⟩
  · rw [h1] at h2; cases h2
theorem rd_le {s t r : ByteArray} (hs : s.size ≤ 9000000000000000000) (h : rd s = some (t, r)) : r.size ≤ s.size := by
  obtain ⟨_, h2⟩ := rd_size hs h
  rw [h2, ByteArray.size_append]; omega
/-- What stands in the box, and what is left, behind k texts. -/
def Rel (s : ByteArray) (k : Nat) (x : El) (r : ByteArray) : Prop :=
  (k = 0 ∧ x = ⟨⟨#[]⟩, ⟨#[]⟩, ⟨#[]⟩, 0, false⟩ ∧ r = s) ∨ (k = 1 ∧ ∃ n, rd s = some (n, r) ∧ x = ⟨n, ⟨#[]⟩, ⟨#[]⟩, 0, false⟩) ∨ (k = 2 ∧ ∃ n r1 c, rd s = some (n, r1) ∧ rd r1 = some (c, r) ∧ x = ⟨n, c, ⟨#[]⟩, 0, false⟩) ∨ (k = 3 ∧ ∃ n r1 c r2 p, rd s = some (n, r1) ∧ rd r1 = some (c, r2) ∧ rd r2 = some (p, r) ∧ x = ⟨n, c, p, 0, false⟩)
def ReadPost (s : ByteArray) (w : World) (e : Ending) (w' : World) : Prop := e = .returned (.tuple #[.agg #[.string (readK s).1.f0, .string (readK s).1.f1, .string (readK s).1.f2, .int .u32 (readK s).1.f3, .bool (readK s).1.f4], .int .i64 (readK s).2]) ∧ Below w.heap.size w w'
def PtrAt (W : World) (B x : Nat) : Prop := W.heap[B]? = some (.cells #[.pointer (some ⟨x, 0, none⟩), .pointer (some ⟨x, 1, none⟩), .pointer (some ⟨x, 2, none⟩)] 88 (0, 0))
def End (s : ByteArray) (x : El) (r : ByteArray) : Prop := (∃ n r1 c r2 p, rd s = some (n, r1) ∧ rd r1 = some (c, r2) ∧ rd r2 = some (p, r) ∧ x = ⟨n, c, p, 0, false⟩) ∨ (r = ⟨#[]⟩ ∧ readK s = (z24, 7))
theorem PtrAt.cells {W : World} {B x : Nat} (h : PtrAt W B x) : W.cell? ⟨B, 0, none⟩ = some (.pointer (some ⟨x, 0, none⟩)) ∧ W.cell? ⟨B, 1, none⟩ = some (.pointer (some ⟨x, 1, none⟩)) ∧ W.cell? ⟨B, 2, none⟩ = some (.pointer (some ⟨x, 2, none⟩)) := ⟨blk_cell h 0, blk_cell h 1, blk_cell h 2⟩
theorem PtrAt.below {W w1 : World} {B x : Nat} (h : PtrAt W B x) (hb : Below W.heap.size W w1) : PtrAt w1 B x := hw_below h hb
theorem PtrAt.set {W : World} {B x y k : Nat} {v : Value} (h : PtrAt W B x) (hne : B ≠ y) : PtrAt (W.setCell ⟨y, k, none⟩ v) B x := (Below.heap_setCell W ⟨y, k, none⟩ v B hne).trans h
theorem rel0 {s r : ByteArray} {x : El} (h : Rel s 0 x r) : x = ⟨⟨#[]⟩, ⟨#[]⟩, ⟨#[]⟩, 0, false⟩ ∧ r = s := by
  rcases h with ⟨_, h⟩ | ⟨h, _⟩ | ⟨h, _⟩ | ⟨h, _⟩
  · exact h
  all_goals exact absurd h (by decide)
theorem rel1 {s r : ByteArray} {x : El} (h : Rel s 1 x r) : ∃ n, rd s = some (n, r) ∧ x = ⟨n, ⟨#[]⟩, ⟨#[]⟩, 0, false⟩ := by
  rcases h with ⟨h, _⟩ | ⟨_, h⟩ | ⟨h, _⟩ | ⟨h, _⟩
  · exact absurd h (by decide)
  · exact h
  all_goals exact absurd h (by decide)
theorem rel2 {s r : ByteArray} {x : El} (h : Rel s 2 x r) : ∃ n r1 c, rd s = some (n, r1) ∧ rd r1 = some (c, r) ∧ x = ⟨n, c, ⟨#[]⟩, 0, false⟩ := by
  rcases h with ⟨h, _⟩ | ⟨h, _⟩ | ⟨_, h⟩ | ⟨h, _⟩
  · exact absurd h (by decide)
  · exact absurd h (by decide)
  · exact h
  · exact absurd h (by decide)
theorem rel3 {s r : ByteArray} {x : El} (h : Rel s 3 x r) : End s x r := by
  rcases h with ⟨h, _⟩ | ⟨h, _⟩ | ⟨h, _⟩ | ⟨_, h⟩
  · exact absurd h (by decide)
  · exact absurd h (by decide)
  · exact absurd h (by decide)
  · exact Or.inl h
theorem rel_size {s r : ByteArray} {x : El} {k : Nat} (hs : s.size ≤ 9000000000000000000) (h : Rel s k x r) : r.size ≤ s.size := by
  rcases h with ⟨_, _, rfl⟩ | ⟨_, n, h1, _⟩ | ⟨_, n, r1, c, h1, h2, _⟩ | ⟨_, n, r1, c, r2, p, h1, h2, h3, _⟩
  · exact Nat.le_refl _
  · exact rd_le hs h1
  · have := rd_le hs h1
    exact Nat.le_trans (rd_le (by omega) h2) this
  · have q1 := rd_le hs h1
    have q2 := rd_le (by omega) h2
    exact Nat.le_trans (rd_le (by omega) h3) (by omega)
set_option maxRecDepth 100000 in
set_option maxHeartbeats 4000000 in
theorem Read (s : ByteArray) (w : World) (hs : s.size ≤ 140737488351232) :
    Calls Try.prog 12 #[.string s] w (ReadPost s w) := by
  have HB := Aside0.mk (Below.refl w.heap.size w)
  have huE := Try.underlying24
  have hs9 : s.size ≤ 9000000000000000000 := by omega
  go_enter Try.func12, Try.ntmps12
  go_wp2_with fail
  go_step3
  go_wp2_with fail
  go_step3
  go_upto_block 0 with fail
  go_cut [4] (fun v4 wx => ∃ (x : El) (r : ByteArray), v4 = .string r ∧ Aside0 (ElAt wx w.heap.size x) ∧ Aside0 (Below w.heap.size w wx) ∧ Aside0 (End s x r ∧ r.size ≤ s.size))
  case first =>
    go_wp2_with fail
    go_loopw [4, 16] (fun v4 v16 wr => ∃ (k : Nat) (x : El) (r : ByteArray), k ≤ 3 ∧ v16 = .int .i64 (k : Int) ∧ v4 = .string r ∧ Aside0 (Rel s k x r) ∧ Aside0 (ElAt wr w.heap.size x) ∧ Aside0 (PtrAt wr (w.heap.size + 1) w.heap.size) ∧ Aside0 (Below w.heap.size w wr)) (fun _ v16 _ => 3 - (intOf v16).toNat)
    case atStart =>
      refine ⟨0, ⟨⟨#[]⟩, ⟨#[]⟩, ⟨#[]⟩, 0, false⟩, s, by omega, rfl, rfl, ⟨Or.inl ⟨rfl, rfl, rfl⟩⟩, ⟨(elAt_new w ⟨⟨#[]⟩, ⟨#[]⟩, ⟨#[]⟩, 0, false⟩).alloc _⟩, ⟨?_⟩, ⟨(by repeat (first | (with_reducible first | exact HB.out | apply below_alloc | apply pw_below_drewN | apply below_drew1 | apply below_drew) | (refine Below.setCell ?_ (by first | (simp; done) | (simp; omega)) _)))⟩⟩
      have z := World.alloc_heap_new (w.alloc (Obj.cells #[Value.string { data := #[] }, Value.string { data := #[] }, Value.string { data := #[] }, Value.int IntKind.u32 0, Value.bool false] 24)) (Obj.cells #[Value.pointer (some ⟨w.heap.size, 0, none⟩), Value.pointer (some ⟨w.heap.size, 1, none⟩), Value.pointer (some ⟨w.heap.size, 2, none⟩)] 88)
      rw [World.size_alloc] at z
      exact z
    case round =>
      clear HB
      obtain ⟨k, x, r, hk, rfl, rfl, HR, HX, HP, HB⟩ := hrel
      have hrs := rel_size hs9 HR.out
      obtain ⟨p0, p1, p2⟩ := HP.out.cells
      obtain ⟨e0, e1, e2, e3, e4⟩ := elAt_cells HX.out
      have zx := blk_lt HX.out
      have f0 := blk_frozen HX.out 0
      have f1 := blk_frozen HX.out 1
      have f2 := blk_frozen HX.out 2
      by_cases hlt : k < 3
      · cases hr : rd r with
        | none =>
          have H8 := Aside0.mk (rd_none (by omega) hr)
          obtain rfl | rfl | rfl : k = 0 ∨ k = 1 ∨ k = 2 := by omega
          · have HE := Aside0.mk (show readK s = (z24, 7) by obtain ⟨_, rfl⟩ := rel0 HR.out; unfold readK; rw [hr])
            clear hr
            go_wp2_with (go_at_call 45; refine (octet_Read8.calls r _ _ 6 _ H8.out).mono ?_; rintro e w1 ⟨rfl, hd⟩; have HX1 := Aside0.mk (elAt_call HX.out (drawn_below hd)); have HB1 := Aside0.mk (below_step HB.out (drawn_below hd)); clear hd)
            go_meet
            exact ⟨x, _, rfl, HX1, HB1, ⟨Or.inr ⟨rfl, HE.out⟩, Nat.zero_le _⟩⟩
          · have HE := Aside0.mk (show readK s = (z24, 7) by obtain ⟨n, h1, _⟩ := rel1 HR.out; unfold readK; rw [h1]; dsimp only; rw [hr])
            clear hr
            go_wp2_with (go_at_call 45; refine (octet_Read8.calls r _ _ 6 _ H8.out).mono ?_; rintro e w1 ⟨rfl, hd⟩; have HX1 := Aside0.mk (elAt_call HX.out (drawn_below hd)); have HB1 := Aside0.mk (below_step HB.out (drawn_below hd)); clear hd)
            go_meet
            exact ⟨x, _, rfl, HX1, HB1, ⟨Or.inr ⟨rfl, HE.out⟩, Nat.zero_le _⟩⟩
          · have HE := Aside0.mk (show readK s = (z24, 7) by obtain ⟨n, r1, c, h1, h2, _⟩ := rel2 HR.out; unfold readK; rw [h1]; dsimp only; rw [h2]; dsimp only; rw [hr])
            clear hr
            go_wp2_with (go_at_call 45; refine (octet_Read8.calls r _ _ 6 _ H8.out).mono ?_; rintro e w1 ⟨rfl, hd⟩; have HX1 := Aside0.mk (elAt_call HX.out (drawn_below hd)); have HB1 := Aside0.mk (below_step HB.out (drawn_below hd)); clear hd)
            go_meet
            exact ⟨x, _, rfl, HX1, HB1, ⟨Or.inr ⟨rfl, HE.out⟩, Nat.zero_le _⟩⟩
        | some tr =>
          obtain ⟨t, r'⟩ := tr
          have H8 := Aside0.mk (rd_some hr)
          have HQ := Aside0.mk hr
          clear hr
          obtain rfl | rfl | rfl : k = 0 ∨ k = 1 ∨ k = 2 := by omega
          · obtain ⟨rfl, rfl⟩ := rel0 HR.out
            go_wp2_with (go_at_call 45; refine (octet_Read8.calls r _ _ 0 _ H8.out).mono ?_; rintro e w1 ⟨rfl, hd⟩; have HX1 := Aside0.mk (elAt_call HX.out (drawn_below hd)); have HP1 := Aside0.mk (HP.out.below (drawn_below hd)); have HB1 := Aside0.mk (below_step HB.out (drawn_below hd)); clear hd e0 e1 e2 e3 e4 zx f0 f1 f2 p0 p1 p2; obtain ⟨e0, e1, e2, e3, e4⟩ := elAt_cells HX1.out; have zx := blk_lt HX1.out; have f0 := blk_frozen HX1.out 0; have f1 := blk_frozen HX1.out 1; have f2 := blk_frozen HX1.out 2)
            go_roundw
            case rel => exact ⟨1, ⟨t, ⟨#[]⟩, ⟨#[]⟩, 0, false⟩, r', by omega, by go_num, rfl, ⟨Or.inr (Or.inl ⟨rfl, t, HQ.out, rfl⟩)⟩, ⟨blk_set HX1.out 0 (.string t)⟩, ⟨HP1.out.set (by omega)⟩, ⟨(by repeat (first | (with_reducible first | exact HB1.out | apply below_alloc | apply pw_below_drewN | apply below_drew1 | apply below_drew) | (refine Below.setCell ?_ (by first | (simp; done) | (simp; omega)) _)))⟩⟩
            case measure => simp [intOf]
          · obtain ⟨n, h1_, rfl⟩ := rel1 HR.out; have H1 := Aside0.mk h1_; clear h1_
            go_wp2_with (go_at_call 45; refine (octet_Read8.calls r _ _ 0 _ H8.out).mono ?_; rintro e w1 ⟨rfl, hd⟩; have HX1 := Aside0.mk (elAt_call HX.out (drawn_below hd)); have HP1 := Aside0.mk (HP.out.below (drawn_below hd)); have HB1 := Aside0.mk (below_step HB.out (drawn_below hd)); clear hd e0 e1 e2 e3 e4 zx f0 f1 f2 p0 p1 p2; obtain ⟨e0, e1, e2, e3, e4⟩ := elAt_cells HX1.out; have zx := blk_lt HX1.out; have f0 := blk_frozen HX1.out 0; have f1 := blk_frozen HX1.out 1; have f2 := blk_frozen HX1.out 2)
            go_roundw
            case rel => exact ⟨2, ⟨n, t, ⟨#[]⟩, 0, false⟩, r', by omega, by go_num, rfl, ⟨Or.inr (Or.inr (Or.inl ⟨rfl, n, r, t, H1.out, HQ.out, rfl⟩))⟩, ⟨blk_set HX1.out 1 (.string t)⟩, ⟨HP1.out.set (by omega)⟩, ⟨(by repeat (first | (with_reducible first | exact HB1.out | apply below_alloc | apply pw_below_drewN | apply below_drew1 | apply below_drew) | (refine Below.setCell ?_ (by first | (simp; done) | (simp; omega)) _)))⟩⟩
            case measure => simp [intOf]
          · obtain ⟨n, r1, c, h1_, h2_, rfl⟩ := rel2 HR.out; have H1 := Aside0.mk h1_; have H2 := Aside0.mk h2_; clear h1_ h2_
            go_wp2_with (go_at_call 45; refine (octet_Read8.calls r _ _ 0 _ H8.out).mono ?_; rintro e w1 ⟨rfl, hd⟩; have HX1 := Aside0.mk (elAt_call HX.out (drawn_below hd)); have HP1 := Aside0.mk (HP.out.below (drawn_below hd)); have HB1 := Aside0.mk (below_step HB.out (drawn_below hd)); clear hd e0 e1 e2 e3 e4 zx f0 f1 f2 p0 p1 p2; obtain ⟨e0, e1, e2, e3, e4⟩ := elAt_cells HX1.out; have zx := blk_lt HX1.out; have f0 := blk_frozen HX1.out 0; have f1 := blk_frozen HX1.out 1; have f2 := blk_frozen HX1.out 2)
            go_roundw
            case rel => exact ⟨3, ⟨n, c, t, 0, false⟩, r', by omega, by go_num, rfl, ⟨Or.inr (Or.inr (Or.inr ⟨rfl, n, r1, c, r, t, H1.out, H2.out, HQ.out, rfl⟩))⟩, ⟨blk_set HX1.out 2 (.string t)⟩, ⟨HP1.out.set (by omega)⟩, ⟨(by repeat (first | (with_reducible first | exact HB1.out | apply below_alloc | apply pw_below_drewN | apply below_drew1 | apply below_drew) | (refine Below.setCell ?_ (by first | (simp; done) | (simp; omega)) _)))⟩⟩
            case measure => simp [intOf]
      · obtain rfl : k = 3 := by omega
        go_wp2_with fail
        go_meet
        exact ⟨x, r, rfl, HX, HB, ⟨rel3 HR.out, hrs⟩⟩
  case rest =>
    obtain ⟨x, r, rfl, HX, HB', HE⟩ := hcut
    rename World => wc
    have hrs := HE.out.2
    clear HB
    have HB := HB'
    clear HB'
    obtain ⟨e0, e1, e2, e3, e4⟩ := elAt_cells HX.out
    have zx := blk_lt HX.out
    have f0 := blk_frozen HX.out 0
    have f1 := blk_frozen HX.out 1
    have f2 := blk_frozen HX.out 2
    have f3 := blk_frozen HX.out 3
    have f4 := blk_frozen HX.out 4
    rcases HE.out.1 with ⟨n, r1, c, r2, p, g1, g2, g3, rfl⟩ | ⟨rfl, hk⟩
    · have HK0 := Aside0.mk (show readK s = lastK n c p r by unfold readK; rw [g1]; dsimp only; rw [g2]; dsimp only; rw [g3])
      clear g1 g2 g3 HE
      by_cases h5 : r.size = 5
      · have hz : (r.size : Int) = 5 := by omega
        have hx4 : ∀ h : 4 < r.size, ((r[4]'h).toNat : Int) = bt r 4 := bt_at r 4
        have hz4 : 4 < r.size := by omega
        by_cases h4 : bt r 4 ≤ 1
        · have dg : decide (1 < bt r 4) = false := decide_eq_false (by omega)
          have hG := Aside0.mk (show octet_Get32.f (r.extract 0 4) = some (adr r, 0) by
            have e : (r.extract 0 4).size = 4 := by rw [ByteArray.size_extract]; omega
            unfold octet_Get32.f adr
            rw [e, if_neg (by decide), if_neg (by decide)])
          have HC := Aside0.mk (check_ok (subOf n c p r))
          have H4 := Aside0.mk h4
          have H5 := Aside0.mk h5
          cases hok : okS (subOf n c p r) with
          | false =>
            rw [hok] at HC
            simp only [Bool.false_eq_true, if_false] at HC
            have HK := Aside0.mk (show readK s = (z24, 7) by rw [HK0.out]; unfold lastK; rw [if_neg (fun e => by rw [hok] at e; exact absurd e.2.2 (by decide))])
            clear hok
            go_wp2_with (first
              | (go_at_call 46; refine (octet_Get32.calls _ _ 0 _ hG.out).mono ?_; rintro e w1 ⟨rfl, hd⟩; have HX1 := Aside0.mk (elAt_call HX.out (drawn_below hd)); have HB1 := Aside0.mk (below_step HB.out (drawn_below hd)); clear hd e0 e1 e2 e3 e4 zx f0 f1 f2 f3 f4; obtain ⟨e0, e1, e2, e3, e4⟩ := elAt_cells HX1.out; have zx := blk_lt HX1.out; have f0 := blk_frozen HX1.out 0; have f1 := blk_frozen HX1.out 1; have f2 := blk_frozen HX1.out 2; have f3 := blk_frozen HX1.out 3; have f4 := blk_frozen HX1.out 4)
              | (go_at_call 29; refine (record_Check.calls _ _ _ _ _ 2 _ HC.out).mono ?_; rintro e w2 ⟨rfl, hb⟩; have q1 : ElAt ((w1.setCell ⟨w.heap.size, 3, none⟩ (.int .u32 (adr r))).setCell ⟨w.heap.size, 4, none⟩ (.bool (bt r 4 == 1))) w.heap.size (subOf n c p r) := (by have z := blk_set (blk_set HX1.out 3 (.int .u32 (adr r))) 4 (.bool (bt r 4 == 1)); exact z); have HX2 := Aside0.mk (elAt_call q1 hb); clear q1; have q2 : Below w.heap.size w ((w1.setCell ⟨w.heap.size, 3, none⟩ (.int .u32 (adr r))).setCell ⟨w.heap.size, 4, none⟩ (.bool (bt r 4 == 1))) := (HB1.out.setCell (Nat.le_refl _) _).setCell (Nat.le_refl _) _; have HB2 := Aside0.mk (below_step q2 hb); clear q2; replace HB := HB2; clear HB2 hb e0 e1 e2 e3 e4 zx f0 f1 f2 f3 f4; obtain ⟨e0, e1, e2, e3, e4⟩ := elAt_cells HX2.out; have zx := blk_lt HX2.out; have f0 := blk_frozen HX2.out 0; have f1 := blk_frozen HX2.out 1; have f2 := blk_frozen HX2.out 2; have f3 := blk_frozen HX2.out 3; have f4 := blk_frozen HX2.out 4))
            go_wp2_with fail
            try rw [Exit.noGoto_ret]
            refine bodyPost_ret (v := .tuple #[.agg #[.string ⟨#[]⟩, .string ⟨#[]⟩, .string ⟨#[]⟩, .int .u32 0, .bool false], .int .i64 7]) (by simp [results, Try.results12, go_sem, zx, e0, e1, e2, e3, e4]) rfl ⟨by rw [HK.out]; rfl, ?_⟩
            exact (by repeat (first | (with_reducible first | exact HB.out | apply below_alloc | apply pw_below_drewN | apply below_drew1 | apply below_drew) | (refine Below.setCell ?_ (by first | (simp; done) | (simp; omega)) _)))
          | true =>
            rw [hok] at HC
            simp only [if_true] at HC
            have HK := Aside0.mk (show readK s = (subOf n c p r, 0) by rw [HK0.out]; unfold lastK; rw [if_pos ⟨h5, h4, hok⟩])
            clear hok
            go_wp2_with (first
              | (go_at_call 46; refine (octet_Get32.calls _ _ 0 _ hG.out).mono ?_; rintro e w1 ⟨rfl, hd⟩; have HX1 := Aside0.mk (elAt_call HX.out (drawn_below hd)); have HB1 := Aside0.mk (below_step HB.out (drawn_below hd)); clear hd e0 e1 e2 e3 e4 zx f0 f1 f2 f3 f4; obtain ⟨e0, e1, e2, e3, e4⟩ := elAt_cells HX1.out; have zx := blk_lt HX1.out; have f0 := blk_frozen HX1.out 0; have f1 := blk_frozen HX1.out 1; have f2 := blk_frozen HX1.out 2; have f3 := blk_frozen HX1.out 3; have f4 := blk_frozen HX1.out 4)
              | (go_at_call 29; refine (record_Check.calls _ _ _ _ _ 0 _ HC.out).mono ?_; rintro e w2 ⟨rfl, hb⟩; have q1 : ElAt ((w1.setCell ⟨w.heap.size, 3, none⟩ (.int .u32 (adr r))).setCell ⟨w.heap.size, 4, none⟩ (.bool (bt r 4 == 1))) w.heap.size (subOf n c p r) := (by have z := blk_set (blk_set HX1.out 3 (.int .u32 (adr r))) 4 (.bool (bt r 4 == 1)); exact z); have HX2 := Aside0.mk (elAt_call q1 hb); clear q1; have q2 : Below w.heap.size w ((w1.setCell ⟨w.heap.size, 3, none⟩ (.int .u32 (adr r))).setCell ⟨w.heap.size, 4, none⟩ (.bool (bt r 4 == 1))) := (HB1.out.setCell (Nat.le_refl _) _).setCell (Nat.le_refl _) _; have HB2 := Aside0.mk (below_step q2 hb); clear q2; replace HB := HB2; clear HB2 hb e0 e1 e2 e3 e4 zx f0 f1 f2 f3 f4; obtain ⟨e0, e1, e2, e3, e4⟩ := elAt_cells HX2.out; have zx := blk_lt HX2.out; have f0 := blk_frozen HX2.out 0; have f1 := blk_frozen HX2.out 1; have f2 := blk_frozen HX2.out 2; have f3 := blk_frozen HX2.out 3; have f4 := blk_frozen HX2.out 4))
            try rw [Exit.noGoto_ret]
            refine bodyPost_ret (v := .tuple #[.agg #[.string n, .string c, .string p, .int .u32 (adr r), .bool (bt r 4 == 1)], .int .i64 0]) (by simp [results, Try.results12, go_sem, zx, e0, e1, e2, e3, e4, subOf]) rfl ⟨by rw [HK.out]; rfl, ?_⟩
            exact (by repeat (first | (with_reducible first | exact HB.out | apply below_alloc | apply pw_below_drewN | apply below_drew1 | apply below_drew) | (refine Below.setCell ?_ (by first | (simp; done) | (simp; omega)) _)))
        · have dg : decide (1 < bt r 4) = true := decide_eq_true (by omega)
          have HK := Aside0.mk (show readK s = (z24, 7) by rw [HK0.out]; unfold lastK; rw [if_neg (fun e => h4 e.2.1)])
          go_wp2_with fail
          try rw [Exit.noGoto_ret]
          refine bodyPost_ret (v := .tuple #[.agg #[.string ⟨#[]⟩, .string ⟨#[]⟩, .string ⟨#[]⟩, .int .u32 0, .bool false], .int .i64 7]) (by simp [results, Try.results12, go_sem, zx, e0, e1, e2, e3, e4]) rfl ⟨by rw [HK.out]; rfl, ?_⟩
          exact (by repeat (first | (with_reducible first | exact HB.out | apply below_alloc | apply pw_below_drewN | apply below_drew1 | apply below_drew) | (refine Below.setCell ?_ (by first | (simp; done) | (simp; omega)) _)))
      · have hz : ¬ (r.size : Int) = 5 := by omega
        have d5 : ((r.size : Int) == 5) = false := by simpa using hz
        have d6 : ((r.size : Int) != 5) = true := by simp [bne, d5]
        have HK := Aside0.mk (show readK s = (z24, 7) by rw [HK0.out]; unfold lastK; rw [if_neg (fun e => h5 e.1)])
        go_wp2_with fail
        try rw [Exit.noGoto_ret]
        refine bodyPost_ret (v := .tuple #[.agg #[.string ⟨#[]⟩, .string ⟨#[]⟩, .string ⟨#[]⟩, .int .u32 0, .bool false], .int .i64 7]) (by simp [results, Try.results12, go_sem, zx, e0, e1, e2, e3, e4]) rfl ⟨by rw [HK.out]; rfl, ?_⟩
        exact (by repeat (first | (with_reducible first | exact HB.out | apply below_alloc | apply pw_below_drewN | apply below_drew1 | apply below_drew) | (refine Below.setCell ?_ (by first | (simp; done) | (simp; omega)) _)))
    · have HK := Aside0.mk hk
      clear HE hk hrs
      go_wp2_with fail
      try rw [Exit.noGoto_ret]
      refine bodyPost_ret (v := .tuple #[.agg #[.string ⟨#[]⟩, .string ⟨#[]⟩, .string ⟨#[]⟩, .int .u32 0, .bool false], .int .i64 7]) (by simp [results, Try.results12, go_sem, zx, e0, e1, e2, e3, e4]) rfl ⟨by rw [HK.out]; rfl, ?_⟩
      exact (by repeat (first | (with_reducible first | exact HB.out | apply below_alloc | apply pw_below_drewN | apply below_drew1 | apply below_drew) | (refine Below.setCell ?_ (by first | (simp; done) | (simp; omega)) _)))
end Go.Proofs.YtmgpaccgjafjeaaHVR
