import Derived.Test.YtjpnebhhpogebaaHPool
import Derived.BigRegion
namespace Go.Proofs.YtjpnebhhpogebaaHPool
open Go.RowKit Go.Proofs.YtjpnebhhpogebaaW.PrintWords Go.Proofs.YtjpnebhhpogebaaHW Go.Proofs.YtjpnebhhpogebaaHG
set_option linter.unusedVariables false
set_option linter.unusedSimpArgs false
/-- Which blocks alone may turn of what was there. -/
def KS (S : Nat → Prop) (w w' : World) : Prop := w'.os = w.os ∧ w'.tape = w.tape ∧ w'.output = w.output ∧ w.heap.size ≤ w'.heap.size ∧ ∀ j, j < w.heap.size → ¬ S j → w'.heap[j]? = w.heap[j]?
theorem KS.refl (S : Nat → Prop) (w : World) : KS S w w := ⟨rfl, rfl, rfl, Nat.le_refl _, fun _ _ _ => rfl⟩
theorem KS.trans {S : Nat → Prop} {w w1 w2 : World} (h : KS S w w1) (h' : KS S w1 w2) : KS S w w2 :=
  ⟨h'.1.trans h.1, h'.2.1.trans h.2.1, h'.2.2.1.trans h.2.2.1, Nat.le_trans h.2.2.2.1 h'.2.2.2.1, fun j hj hb => (h'.2.2.2.2 j (Nat.lt_of_lt_of_le hj h.2.2.2.1) hb).trans (h.2.2.2.2 j hj hb)⟩
theorem KS.below {S : Nat → Prop} {w w1 : World} (h : Below w.heap.size w w1) : KS S w w1 := ⟨h.os, h.tape, h.output, h.size, fun j hj _ => h.block j hj⟩
theorem set_other {w : World} {p : Addr} {v : Value} {g : Nat} (h : g ≠ p.block) : (w.setCell p v).heap[g]? = w.heap[g]? := by simp [World.setCell, Array.getElem?_modify, Ne.symm h]
theorem KS.set {S : Nat → Prop} {w w1 : World} (h : KS S w w1) (p : Addr) (hp : S p.block) (v : Value) : KS S w (w1.setCell p v) := by
  refine ⟨h.1, h.2.1, h.2.2.1, by simpa using h.2.2.2.1, fun j hj hs => ?_⟩
  have : (w1.setCell p v).heap[j]? = w1.heap[j]? := by
    have := (Below.refl (j + 1) w1)
    by_cases e : p.block = j
    · exact absurd (e ▸ hp) hs
    · simp [World.setCell, Array.getElem?_modify, e]
  exact this.trans (h.2.2.2.2 j hj hs)
theorem KS.block {S : Nat → Prop} {g : Nat} {w w1 : World} {o : Obj} (hk : KS S w w1) (h : w.heap[g]? = some o) (hne : ¬ S g) : w1.heap[g]? = some o := by
  rw [hk.2.2.2.2 g (by
    rcases Nat.lt_or_ge g w.heap.size with h' | h'
    · exact h'
    · rw [Array.getElem?_eq_none h'] at h; exact absurd h (by simp)) hne]
  exact h
theorem KS.to_below {S : Nat → Prop} {B : Nat} {w0 w w1 : World} (h : Below B w0 w) (hk : KS S w w1) (hB : ∀ j, S j → B ≤ j) (hs : B ≤ w.heap.size) : Below B w0 w1 :=
  ⟨hk.1.trans h.os, hk.2.1.trans h.tape, hk.2.2.1.trans h.output, Nat.le_trans h.size hk.2.2.2.1, fun j hj => (hk.2.2.2.2 j (by omega) (fun hS => by have := hB j hS; omega)).trans (h.block j hj)⟩
theorem PoolAt.ks {S : Nat → Prop} {w w' : World} {g b : Nat} {base n : Int} {M : Int → Option ByteArray} {c : Nat} (h : PoolAt w g b base n M c) (hk : KS S w w') (hg : ¬ S g) (hb : ¬ S b) : PoolAt w' g b base n M c :=
  ⟨hk.block h.1 hg, h.2.1.heap (hk.2.2.2.2 b h.2.1.lt hb), h.2.2⟩
def LeastIs (base n : Int) (M : Int → Option ByteArray) (addr : Int) (is : Bool) : Prop :=
  (is = true ∧ ∃ k : Nat, (k : Int) < n ∧ addr = base + k ∧ (M addr).isSome = false ∧ ∀ j : Nat, j < k → (M (base + j)).isSome = true) ∨ (is = false ∧ addr = 0 ∧ ∀ j : Nat, (j : Int) < n → (M (base + j)).isSome = true)
set_option maxRecDepth 100000 in
set_option maxHeartbeats 1000000 in
theorem Least1Taken (a : Int) (s : ByteArray) (G1 G2 : Nat) (w : World) :
    Calls Try.prog 25 #[.int .u32 a, .agg #[.string s], .bool true, .pointer (some ⟨G1, 0, none⟩), .pointer (some ⟨G2, 0, none⟩)] w fun e w' => e = .returned (.bool true) ∧ Below w.heap.size w w' := by
  have huO := Try.underlying58
  have HB := Aside0.mk (Below.refl w.heap.size w)
  go_enter Try.func25, Try.ntmps25
  go_wp2_with fail
  go_ret
  exact ⟨rfl, by repeat (first | (with_reducible first | exact HB.out | apply below_alloc))⟩
set_option maxRecDepth 100000 in
set_option maxHeartbeats 1000000 in
theorem Least1Free (a x : Int) (y : Bool) (s : ByteArray) (G1 G2 : Nat) (w : World) (h1 : w.heap[G1]? = some (.cells #[.int .u32 x] 22 (0, 0))) (h2 : w.heap[G2]? = some (.cells #[.bool y] 4 (0, 0))) (hne : G1 ≠ G2) :
    Calls Try.prog 25 #[.int .u32 a, .agg #[.string s], .bool false, .pointer (some ⟨G1, 0, none⟩), .pointer (some ⟨G2, 0, none⟩)] w fun e w' => e = .returned (.bool false) ∧ w'.heap[G1]? = some (.cells #[.int .u32 a] 22 (0, 0)) ∧ w'.heap[G2]? = some (.cells #[.bool true] 4 (0, 0)) ∧ KS (fun j => j = G1 ∨ j = G2) w w' := by
  have huO := Try.underlying58
  have k1 := blk_cell h1 0
  have k2 := blk_cell h2 0
  simp only [List.getElem?_toArray, List.getElem?_cons_zero, List.getElem?_cons_succ] at k1 k2
  have z1 := blk_lt h1
  have z2 := blk_lt h2
  have f1 := blk_frozen h1 0
  have f2 := blk_frozen h2 0
  have hne' : ¬ G1 = G2 := hne
  have hne2 : ¬ G2 = G1 := fun h => hne h.symm
  have H1 := Aside0.mk h1
  have H2 := Aside0.mk h2
  clear h1 h2
  go_enter Try.func25, Try.ntmps25
  go_wp2_with fail
  go_ret
  have q1 := (set_other (w := w.setCell ⟨G1, 0, none⟩ (.int .u32 a)) (p := ⟨G2, 0, none⟩) (v := .bool true) (g := G1) hne).trans (blk_set H1.out 0 (.int .u32 a))
  have q2 := blk_set ((set_other (w := w) (p := ⟨G1, 0, none⟩) (v := .int .u32 a) (g := G2) hne2).trans H2.out) 0 (.bool true)
  refine ⟨rfl, blk_alloc (q1.trans rfl) _, blk_alloc (q2.trans rfl) _, ?_⟩
  have K1 := ((KS.refl (fun j => j = G1 ∨ j = G2) w).set ⟨G1, 0, none⟩ (.inl rfl) (.int .u32 a)).set ⟨G2, 0, none⟩ (.inr rfl) (.bool true)
  exact K1.trans (KS.below (below_alloc (Below.refl _ _) _))
def LeastPost (base n : Int) (M : Int → Option ByteArray) (G1 G2 : Nat) (w w' : World) : Prop := ∃ addr is, LeastIs base n M addr is ∧ w'.heap[G1]? = some (.cells #[.int .u32 addr] 22 (0, 0)) ∧ w'.heap[G2]? = some (.cells #[.bool is] 4 (0, 0)) ∧ KS (fun j => j = G1 ∨ j = G2) w w'
set_option maxRecDepth 100000 in
set_option maxHeartbeats 1000000 in
theorem eachLeast (g b : Nat) (base n : Int) (M : Int → Option ByteArray) (c : Nat) (G1 G2 : Nat) (w : World) (h : PoolAt w g b base n M c) (hv : Valid base n M c)
    (h1 : w.heap[G1]? = some (.cells #[.int .u32 0] 22 (0, 0))) (h2 : w.heap[G2]? = some (.cells #[.bool false] 4 (0, 0))) (hne : G1 ≠ G2) (hg1 : g ≠ G1) (hg2 : g ≠ G2) :
    Calls Try.prog 24 #[.pointer (some ⟨g, 0, none⟩), .func (.func 25) #[] #[.pointer (some ⟨G1, 0, none⟩), .pointer (some ⟨G2, 0, none⟩)]] w fun e w' => e = .returned (.tuple #[]) ∧ LeastPost base n M G1 G2 w w' := by
  have n1 := hv.n1
  have n2 := hv.n2
  have b1 := hv.b1
  have b2 := hv.b2
  have k0 := blk_cell h.1 0
  have k1 := blk_cell h.1 1
  have k2 := blk_cell h.1 2
  simp only [List.getElem?_toArray, List.getElem?_cons_zero, List.getElem?_cons_succ] at k0 k1 k2
  have hb1 : ¬ b = G1 := fun e => by
    obtain ⟨D, ⟨es, clk, he, _⟩, _⟩ := h.2.1
    rw [e, h1] at he
    exact absurd he (by simp)
  have hb2 : ¬ b = G2 := fun e => by
    obtain ⟨D, ⟨es, clk, he, _⟩, _⟩ := h.2.1
    rw [e, h2] at he
    exact absurd he (by simp)
  have HP := Aside0.mk h
  have H1 := Aside0.mk h1
  have H2 := Aside0.mk h2
  have huO := Try.underlying58
  have hg1' : ¬ g = G1 := hg1
  have hg2' : ¬ g = G2 := hg2
  clear h hv h1 h2 hg1 hg2
  go_enter Try.func24, Try.ntmps24
  go_wp2_with fail
  clear k0 k1 k2
  go_loopw [12] (fun v12 wr => ∃ k : Nat, (k : Int) ≤ n ∧ v12 = .int .i64 (k : Int) ∧ Aside0 (∀ j : Nat, j < k → (M (base + j)).isSome = true) ∧ Aside0 (wr.heap[G1]? = some (.cells #[.int .u32 0] 22 (0, 0))) ∧ Aside0 (wr.heap[G2]? = some (.cells #[.bool false] 4 (0, 0))) ∧ Aside0 (KS (fun j => j = G1 ∨ j = G2) w wr)) (fun v12 _ => (n - intOf v12).toNat)
  case atStart => exact ⟨0, by omega, rfl, ⟨fun j hj => absurd hj (by omega)⟩, H1, H2, ⟨KS.refl _ _⟩⟩
  case round =>
    obtain ⟨k, hk, rfl, HA, R1, R2, HK⟩ := hrel
    by_cases hlt : (k : Int) < n
    · have P1 := HP.out.ks HK.out (by simp [hg1', hg2']) (by simp [hb1, hb2])
      have k0 := blk_cell P1.1 0
      have k1 := blk_cell P1.1 1
      have k2 := blk_cell P1.1 2
      simp only [List.getElem?_toArray, List.getElem?_cons_zero, List.getElem?_cons_succ] at k0 k1 k2
      have HM := Aside0.mk P1.2.1
      have s1 : IntKind.u32.wrap (k : Int) = k := by rw [IntKind.wrap_u32]; omega
      have s2 : IntKind.u32.wrap (base + (k : Int)) = base + k := by rw [IntKind.wrap_u32]; omega
      have a0 : 0 ≤ base + (k : Int) := by omega
      have a1 : base + (k : Int) < 4294967296 := by omega
      have E := Aside0.mk (look32 M (base + k))
      clear P1
      cases hM : (M (base + (k : Int))).isSome with
      | true =>
        have HS := Aside0.mk hM
        clear hM
        go_wp2_with (first | (refine wp_lookup2 _ rfl _ _ 53 rfl 22 58 law32 Try.underlying53 _ (zeroOwner _) b c _ rfl (by repeat (first | exact HM.out | apply MapIs.alloc | apply MapIs.drewN | apply MapIs.drew)) _ (.int .u32 (base + (k : Int))) rfl (key32 (base + k) a0 a1) trivial ?_; rw [E.out.1, E.out.2, HS.out]) | (go_at_call 25; refine (Least1Taken _ _ G1 G2 _).mono ?_; rintro e w1 ⟨rfl, hb1⟩; have R1' := Aside0.mk (hw_below (blk_alloc R1.out _) hb1); have R2' := Aside0.mk (hw_below (blk_alloc R2.out _) hb1); have HK' := Aside0.mk (HK.out.trans ((KS.below (below_alloc (Below.refl _ _) _)).trans (KS.below hb1)))))
        go_roundw
        case rel => exact ⟨k + 1, by omega, by go_num, ⟨fun j hj => by
          by_cases e : j = k
          · rw [e]; exact HS.out
          · exact HA.out j (by omega)⟩, R1', R2', HK'⟩
        case measure => simp [intOf]; omega
      | false =>
        have HS := Aside0.mk hM
        clear hM
        go_wp2_with (first | (refine wp_lookup2 _ rfl _ _ 53 rfl 22 58 law32 Try.underlying53 _ (zeroOwner _) b c _ rfl (by repeat (first | exact HM.out | apply MapIs.alloc | apply MapIs.drewN | apply MapIs.drew)) _ (.int .u32 (base + (k : Int))) rfl (key32 (base + k) a0 a1) trivial ?_; rw [E.out.1, E.out.2, HS.out]) | (go_at_call 25; refine (Least1Free _ _ _ _ G1 G2 _ (blk_alloc R1.out _) (blk_alloc R2.out _) hne).mono ?_; rintro e w1 ⟨rfl, q1, q2, hk1⟩; have Q1 := Aside0.mk q1; have Q2 := Aside0.mk q2; have HK' := Aside0.mk (HK.out.trans ((KS.below (below_alloc (Below.refl _ _) _)).trans hk1)); clear q1 q2 hk1))
        refine bodyPost_ret (results_none rfl _ _ _) rfl ?_
        exact ⟨rfl, base + k, true, .inl ⟨rfl, k, hlt, rfl, HS.out, HA.out⟩, Q1.out, Q2.out, HK'.out⟩
    · go_wp2_with fail
      go_end0
      exact ⟨rfl, 0, false, .inr ⟨rfl, rfl, fun j hj => HA.out j (by omega)⟩, R1.out, R2.out, HK.out⟩
def LeastRet (base n : Int) (M : Int → Option ByteArray) (w : World) (e : Ending) (w' : World) : Prop := ∃ addr is, e = .returned (.tuple #[.int .u32 addr, .bool is]) ∧ LeastIs base n M addr is ∧ Below w.heap.size w w'
set_option maxRecDepth 100000 in
set_option maxHeartbeats 1000000 in
theorem Least (g b : Nat) (base n : Int) (M : Int → Option ByteArray) (c : Nat) (w : World) (h : PoolAt w g b base n M c) (hv : Valid base n M c) :
    Calls Try.prog 8 #[.pointer (some ⟨g, 0, none⟩)] w (LeastRet base n M w) := by
  have HP := Aside0.mk h
  have HV := Aside0.mk hv
  have zg := blk_lt h.1
  have HB := Aside0.mk (Below.refl w.heap.size w)
  clear h hv
  go_enter Try.func8, Try.ntmps8
  have hne : ¬ w.heap.size = w.heap.size + 1 := by omega
  go_wp2_with (go_at_call 24; refine (eachLeast g b base n M c w.heap.size (w.heap.size + 1) _ (HP.out.ks (KS.below (S := fun _ => False) (below_alloc (below_alloc HB.out _) _)) (fun h => h) (fun h => h)) HV.out (blk_alloc (blk_new w _) _) (hw_at (w := w.alloc (.cells #[.int .u32 0] 22)) (by simp) _) (by omega) (by omega) (by omega)).mono ?_; rintro e w1 ⟨rfl, hp⟩; obtain ⟨addr, is, hL, q1, q2, hk⟩ := hp; have Q1 := Aside0.mk q1; have Q2 := Aside0.mk q2; have HK := Aside0.mk hk; have HLL := Aside0.mk hL; have k1 := blk_cell q1 0; have k2 := blk_cell q2 0; have z1 := blk_lt q1; have z2 := blk_lt q2; have f1 := blk_frozen q1 0; have f2 := blk_frozen q2 0; simp only [List.getElem?_toArray, List.getElem?_cons_zero] at k1 k2; clear q1 q2 hk hL)
  go_region
  go_wp2
  have q1 := blk_drew ((set_other (w := w1.setCell ⟨w.heap.size, 0, none⟩ (.int .u32 addr)) (p := ⟨w.heap.size + 1, 0, none⟩) (v := .bool is) (g := w.heap.size) (by simp)).trans (blk_set Q1.out 0 (.int .u32 addr)))
  have q2 := blk_drew (blk_set ((set_other (w := w1) (p := ⟨w.heap.size, 0, none⟩) (v := .int .u32 addr) (g := w.heap.size + 1) (by simp)).trans Q2.out) 0 (.bool is))
  have c1 := blk_cell q1 0
  have c2 := blk_cell q2 0
  simp only [List.setIfInBounds_toArray, List.set_cons_zero, List.getElem?_toArray, List.getElem?_cons_zero] at c1 c2
  refine bodyPost_ret (v := .tuple #[.int .u32 addr, .bool is]) ?_ rfl ?_
  · simp [results, Try.results8, go_sem, c1, c2]
  refine ⟨addr, is, rfl, HLL.out, ?_⟩
  refine below_drew1 (below_set (below_set ?_ (Nat.le_refl _)) (by omega))
  exact KS.to_below (below_alloc (below_alloc (Below.refl _ _) _) _) HK.out (fun j hj => by rcases hj with rfl | rfl <;> omega) (by simp; omega)
end Go.Proofs.YtjpnebhhpogebaaHPool
