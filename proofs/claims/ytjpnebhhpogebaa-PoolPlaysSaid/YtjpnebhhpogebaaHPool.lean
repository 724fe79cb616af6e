import Derived.Test.YtjpnebhhpogebaaHG
import Derived.Test.YtjpnebhhpogebaaHW
import Derived.Test.YtjpnebhhpogebaaProg
import Derived.Outline
import Derived.BigQuiet
import Derived.Deep.QuietTactic
import Derived.LaidEql
import Derived.Deep.DeepMust
namespace Go.Proofs.YtjpnebhhpogebaaHPool
open Go.RowKit Go.Proofs.YtjpnebhhpogebaaW.PrintWords Go.Proofs.YtjpnebhhpogebaaHW Go.Proofs.YtjpnebhhpogebaaHG
set_option linter.unusedVariables false
set_option linter.unusedSimpArgs false
/-- A map from words of 32 bits to one-string structs. -/
def own32 (M : Int → Option ByteArray) : Lit → Option Value
  | .int .u32 a => (M a).map fun s => .agg #[.string s]
  | _ => none
noncomputable def pput (M : Int → Option ByteArray) (a : Int) (s : ByteArray) : Int → Option ByteArray := fun x => if x = a then some s else M x
noncomputable def pdel (M : Int → Option ByteArray) (a : Int) : Int → Option ByteArray := fun x => if x = a then none else M x
theorem own_put (M : Int → Option ByteArray) (a : Int) (s : ByteArray) : mput (own32 M) (.int .u32 a) (.agg #[.string s]) = own32 (pput M a s) := by
  funext l
  unfold mput
  by_cases e : l = .int .u32 a
  · rw [if_pos e, e]
    show _ = ((pput M a s) a).map _
    unfold pput
    rw [if_pos rfl]; rfl
  · rw [if_neg e]
    cases l with
    | int q x =>
      cases q <;> try rfl
      show (M x).map _ = ((pput M a s) x).map _
      unfold pput
      rw [if_neg (fun h => e (by rw [h]))]
    | _ => rfl
theorem own_del (M : Int → Option ByteArray) (a : Int) : mdel (own32 M) (.int .u32 a) = own32 (pdel M a) := by
  funext l
  unfold mdel
  by_cases e : l = .int .u32 a
  · rw [if_pos e, e]
    show _ = ((pdel M a) a).map _
    unfold pdel
    rw [if_pos rfl]; rfl
  · rw [if_neg e]
    cases l with
    | int q x =>
      cases q <;> try rfl
      show (M x).map _ = ((pdel M a) x).map _
      unfold pdel
      rw [if_neg (fun h => e (by rw [h]))]
    | _ => rfl
/-! Plain facts on addresses that are taken. -/
def cnt (base : Int) (M : Int → Option ByteArray) : Nat → Nat
  | 0 => 0
  | k + 1 => cnt base M k + (if (M (base + k)).isSome = true then 1 else 0)
structure Valid (base n : Int) (M : Int → Option ByteArray) (c : Nat) : Prop where
  n1 : 1 ≤ n
  n2 : n ≤ 1024
  b1 : 1 ≤ base
  b2 : base + n ≤ 4294967296
  dom : ∀ a, (M a).isSome = true → base ≤ a ∧ a < base + n
  cn : c = cnt base M n.toNat
theorem cnt_le (base : Int) (M : Int → Option ByteArray) : ∀ k, cnt base M k ≤ k
  | 0 => Nat.le_refl _
  | k + 1 => by have := cnt_le base M k; simp only [cnt]; split <;> omega
theorem cnt_congr (base : Int) (M M' : Int → Option ByteArray) : ∀ k : Nat, (∀ j : Nat, j < k → (M (base + j)).isSome = (M' (base + j)).isSome) → cnt base M k = cnt base M' k
  | 0, _ => rfl
  | k + 1, h => by simp only [cnt]; rw [cnt_congr base M M' k (fun j hj => h j (by omega)), h k (by omega)]
theorem cnt_put (base a : Int) (M : Int → Option ByteArray) (s : ByteArray) (hM : (M a).isSome = false) : ∀ k : Nat, base ≤ a → a < base + k → cnt base (pput M a s) k = cnt base M k + 1
  | 0, h0, h1 => by omega
  | k + 1, h0, h1 => by
    simp only [cnt]
    by_cases e : a = base + k
    · have h2 : cnt base (pput M a s) k = cnt base M k := cnt_congr base _ _ k fun j hj => by unfold pput; rw [if_neg (by omega)]
      rw [h2, ← e, hM]
      unfold pput; simp
    · rw [cnt_put base a M s hM k h0 (by omega)]
      have h3 : pput M a s (base + k) = M (base + k) := by unfold pput; rw [if_neg (fun h => e h.symm)]
      rw [h3]; omega
theorem cnt_del (base a : Int) (M : Int → Option ByteArray) (hM : (M a).isSome = true) : ∀ k : Nat, base ≤ a → a < base + k → cnt base (pdel M a) k + 1 = cnt base M k
  | 0, h0, h1 => by omega
  | k + 1, h0, h1 => by
    simp only [cnt]
    by_cases e : a = base + k
    · have h2 : cnt base (pdel M a) k = cnt base M k := cnt_congr base _ _ k fun j hj => by unfold pdel; rw [if_neg (by omega)]
      rw [h2, ← e, hM]
      unfold pdel; simp
    · rw [← cnt_del base a M hM k h0 (by omega)]
      have h3 : pdel M a (base + k) = M (base + k) := by unfold pdel; rw [if_neg (fun h => e h.symm)]
      rw [h3]; omega
theorem cnt_full (base : Int) (M : Int → Option ByteArray) : ∀ k : Nat, cnt base M k = k → ∀ j : Nat, j < k → (M (base + j)).isSome = true
  | 0, _, j, hj => by omega
  | k + 1, h, j, hj => by
    simp only [cnt] at h
    have h1 := cnt_le base M k
    have h2 : (M (base + k)).isSome = true := by
      cases hq : (M (base + k)).isSome with
      | true => rfl
      | false => rw [hq] at h; simp at h; omega
    rw [h2] at h
    by_cases e : j = k
    · subst e; exact h2
    · exact cnt_full base M k (by simpa using h) j (by omega)
theorem full_cnt (base : Int) (M : Int → Option ByteArray) : ∀ k : Nat, (∀ j : Nat, j < k → (M (base + j)).isSome = true) → cnt base M k = k
  | 0, _ => rfl
  | k + 1, h => by simp only [cnt]; rw [full_cnt base M k (fun j hj => h j (by omega)), h k (by omega)]; rfl
theorem Valid.put {base n a : Int} {M : Int → Option ByteArray} {c : Nat} {s : ByteArray} (h : Valid base n M c) (h0 : base ≤ a) (h1 : a < base + n) (hM : (M a).isSome = false) : Valid base n (pput M a s) (c + 1) :=
  ⟨h.n1, h.n2, h.b1, h.b2, fun x hx => by
    by_cases e : x = a
    · subst e; exact ⟨h0, h1⟩
    · exact h.dom x (by unfold pput at hx; rw [if_neg e] at hx; exact hx), by
    rw [h.cn]; exact (cnt_put base a M s hM n.toNat h0 (by have := h.n1; omega)).symm⟩
theorem Valid.del {base n a : Int} {M : Int → Option ByteArray} {c : Nat} (h : Valid base n M (c + 1)) (hM : (M a).isSome = true) : Valid base n (pdel M a) c :=
  ⟨h.n1, h.n2, h.b1, h.b2, fun x hx => by
    by_cases e : x = a
    · subst e; unfold pdel at hx; simp at hx
    · exact h.dom x (by unfold pdel at hx; rw [if_neg e] at hx; exact hx), by
    have h2 := h.dom a hM
    have := cnt_del base a M hM n.toNat h2.1 (by have := h.n1; omega)
    have := h.cn
    show c = cnt base (pdel M a) n.toNat
    omega⟩

/-- The pool's block, its map's block, what it holds. -/
def PoolAt (w : World) (g b : Nat) (base n : Int) (M : Int → Option ByteArray) (c : Nat) : Prop :=
  w.heap[g]? = some (.cells #[.int .u32 base, .int .i64 n, .map (some b)] 55 (0, 0)) ∧ MapIs Try.prog 22 (.agg #[.string ⟨#[]⟩]) w b (own32 M) c ∧ g ≠ b
theorem PoolAt.kb {w w' : World} {g b : Nat} {base n : Int} {M : Int → Option ByteArray} {c : Nat} (h : PoolAt w g b base n M c) (hb : Below w.heap.size w w') : PoolAt w' g b base n M c :=
  ⟨hw_below h.1 hb, h.2.1.heap (hb.block b h.2.1.lt), h.2.2⟩
theorem drawn_below {w w1 : World} (h : Drawn0 w w1) : Below w.heap.size w w1 := by
  obtain ⟨nd, rfl⟩ := h
  exact pw_below_drewN (Below.refl _ _) nd
theorem law32 : Maps.Keyed Try.prog 22 := Maps.int_keyed Try.underlying22
theorem key32 (a : Int) (h0 : 0 ≤ a) (h1 : a < 4294967296) : keyOf Try.prog 22 (.int .u32 a) = some (.int .u32 a) :=
  Maps.keyOf_int_mk Try.underlying22 (by simp only [Lit.wf, Bool.and_eq_true, decide_eq_true_eq]; exact ⟨h0, by show a ≤ 4294967295; omega⟩)
theorem zeroOwner (w : World) : (zeroValue 58).run Try.prog w = .ok (.agg #[.string ⟨#[]⟩]) w := by kernel_rfl
def hasB (base n a : Int) : Bool := decide (base ≤ a) && decide (a < base + n)
set_option maxRecDepth 100000 in
set_option maxHeartbeats 1000000 in
theorem Has (g b : Nat) (base n a : Int) (M : Int → Option ByteArray) (c : Nat) (w : World) (h : PoolAt w g b base n M c) (hv : Valid base n M c) (a0 : 0 ≤ a) (a1 : a < 4294967296) :
    Calls Try.prog 15 #[.pointer (some ⟨g, 0, none⟩), .int .u32 a] w fun e w' => e = .returned (.bool (hasB base n a)) ∧ Drawn0 w w' := by
  have h1 := hv.n1
  have h2 := hv.n2
  have h3 := hv.b1
  have h4 := hv.b2
  have k0 := blk_cell h.1 0
  have k1 := blk_cell h.1 1
  simp only [List.getElem?_toArray, List.getElem?_cons_zero, List.getElem?_cons_succ] at k0 k1
  unfold hasB
  clear h hv
  have s1 : IntKind.u32.wrap n = n := by rw [IntKind.wrap_u32]; omega
  by_cases c1 : base ≤ a
  · have d1 : decide (base ≤ a) = true := decide_eq_true c1
    have s2 : IntKind.u32.wrap (a - base) = a - base := by rw [IntKind.wrap_u32]; omega
    by_cases c2 : a < base + n
    · have d2 : decide (a - base < n) = true := decide_eq_true (by omega)
      have E := Aside0.mk (show true = (decide (base ≤ a) && decide (a < base + n)) by simp [c1, c2])
      clear c1 c2
      go_enter Try.func15, Try.ntmps15
      go_wp2_with fail
      repeat (go_quiet (fail); try go_wp2)
      go_ret
      exact ⟨congrArg (fun z => Ending.returned (.bool z)) E.out, by repeat (first | exact Drawn0.refl _ | apply Drawn0.step)⟩
    · have d2 : decide (a - base < n) = false := decide_eq_false (by omega)
      have E := Aside0.mk (show false = (decide (base ≤ a) && decide (a < base + n)) by simp [c1, c2])
      clear c1 c2
      go_enter Try.func15, Try.ntmps15
      go_wp2_with fail
      repeat (go_quiet (fail); try go_wp2)
      go_ret
      exact ⟨congrArg (fun z => Ending.returned (.bool z)) E.out, by repeat (first | exact Drawn0.refl _ | apply Drawn0.step)⟩
  · have d1 : decide (base ≤ a) = false := decide_eq_false c1
    have E := Aside0.mk (show false = (decide (base ≤ a) && decide (a < base + n)) by simp [c1])
    clear c1
    go_enter Try.func15, Try.ntmps15
    go_wp2_with fail
    repeat (go_quiet (fail); try go_wp2)
    go_ret
    exact ⟨congrArg (fun z => Ending.returned (.bool z)) E.out, by repeat (first | exact Drawn0.refl _ | apply Drawn0.step)⟩
theorem look32 (M : Int → Option ByteArray) (a : Int) : (own32 M (.int .u32 a)).getD (.agg #[.string ⟨#[]⟩]) = .agg #[.string ((M a).getD ⟨#[]⟩)] ∧ (own32 M (.int .u32 a)).isSome = (M a).isSome := by
  show ((M a).map _).getD _ = _ ∧ ((M a).map _).isSome = _
  cases M a <;> exact ⟨rfl, rfl⟩
set_option maxRecDepth 100000 in
set_option maxHeartbeats 1000000 in
theorem Owner (g b : Nat) (base n a : Int) (M : Int → Option ByteArray) (c : Nat) (w : World) (h : PoolAt w g b base n M c) (a0 : 0 ≤ a) (a1 : a < 4294967296) :
    Calls Try.prog 14 #[.pointer (some ⟨g, 0, none⟩), .int .u32 a] w fun e w' => e = .returned (.tuple #[.string ((M a).getD ⟨#[]⟩), .bool (M a).isSome]) ∧ Below w.heap.size w w' := by
  have k0 := blk_cell h.1 0
  have k1 := blk_cell h.1 1
  have k2 := blk_cell h.1 2
  simp only [List.getElem?_toArray, List.getElem?_cons_zero, List.getElem?_cons_succ] at k0 k1 k2
  have HM := Aside0.mk h.2.1
  have huO := Try.underlying58
  have E := Aside0.mk (look32 M a)
  have HB := Aside0.mk (Below.refl w.heap.size w)
  clear h
  go_enter Try.func14, Try.ntmps14
  go_wp2_with (first | (refine wp_lookup2 _ rfl _ _ 53 rfl 22 58 law32 Try.underlying53 _ (zeroOwner _) b c _ rfl (by repeat (first | exact HM.out | apply MapIs.alloc | apply MapIs.drewN | apply MapIs.drew)) _ (.int .u32 a) rfl (key32 a a0 a1) trivial ?_; rw [E.out.1, E.out.2]))
  go_ret2
  exact ⟨rfl, by repeat (first | (with_reducible first | exact HB.out | apply below_alloc | apply pw_below_drewN | apply below_drew1 | apply below_drew) | (refine Below.setCell ?_ (by first | (simp; done) | (simp; omega)) _))⟩
set_option maxRecDepth 100000 in
set_option maxHeartbeats 1000000 in
theorem Free (g b : Nat) (base n : Int) (M : Int → Option ByteArray) (c : Nat) (w : World) (h : PoolAt w g b base n M c) (hv : Valid base n M c) :
    Calls Try.prog 9 #[.pointer (some ⟨g, 0, none⟩)] w fun e w' => e = .returned (.int .i64 (n - c)) ∧ Drawn0 w w' := by
  have h1 := hv.n1
  have h2 := hv.n2
  have h3 : c ≤ n.toNat := by rw [hv.cn]; exact cnt_le _ _ _
  have k0 := blk_cell h.1 0
  have k1 := blk_cell h.1 1
  have k2 := blk_cell h.1 2
  simp only [List.getElem?_toArray, List.getElem?_cons_zero, List.getElem?_cons_succ] at k0 k1 k2
  have HM := Aside0.mk h.2.1
  clear h hv
  go_enter Try.func9, Try.ntmps9
  have hl : ∀ (q : Nat) (ty : TypeId), (Builtin.len_ #[53] ty #[.map (some b)]).run Try.prog (w.drewN q) = .ok (.int .i64 c) (w.drewN q) := fun q ty => (HM.out.drewN q).len_run Try.underlying53 ty
  have hl0 : ∀ (ty : TypeId), (Builtin.len_ #[53] ty #[.map (some b)]).run Try.prog w = .ok (.int .i64 c) w := fun ty => HM.out.len_run Try.underlying53 ty
  have hw : wrap64 (n - (c : Int)) = n - c := by unfold wrap64; omega
  go_wp2_with fail
  repeat (go_quiet (fail); try go_wp2)
  go_ret
  exact ⟨rfl, by repeat (first | exact Drawn0.refl _ | apply Drawn0.step)⟩
set_option maxRecDepth 100000 in
set_option maxHeartbeats 1000000 in
theorem Give (g b : Nat) (base n a : Int) (M : Int → Option ByteArray) (c : Nat) (w : World) (h : PoolAt w g b base n M (c + 1)) (a0 : 0 ≤ a) (a1 : a < 4294967296) (hM : (M a).isSome = true) :
    Calls Try.prog 12 #[.pointer (some ⟨g, 0, none⟩), .int .u32 a] w fun e w' => e = .returned (.int .i64 0) ∧ PoolAt w' g b base n (pdel M a) c ∧ KB b w w' := by
  have hg := h.1
  have hne := h.2.2
  have k0 := blk_cell h.1 0
  have k1 := blk_cell h.1 1
  have k2 := blk_cell h.1 2
  have zg := blk_lt h.1
  simp only [List.getElem?_toArray, List.getElem?_cons_zero, List.getElem?_cons_succ] at k0 k1 k2
  have HM := Aside0.mk h.2.1
  have huO := Try.underlying58
  have E := Aside0.mk (look32 M a)
  have HS := Aside0.mk hM
  have HB := Aside0.mk (Below.refl w.heap.size w)
  have HG := Aside0.mk hg
  clear h hM hg
  go_enter Try.func12, Try.ntmps12
  go_wp2_with (first | (refine wp_lookup2 _ rfl _ _ 53 rfl 22 58 law32 Try.underlying53 _ (zeroOwner _) b (c + 1) _ rfl (by repeat (first | exact HM.out | apply MapIs.alloc | apply MapIs.drewN | apply MapIs.drew)) _ (.int .u32 a) rfl (key32 a a0 a1) trivial ?_; rw [E.out.1, E.out.2, HS.out]) | (refine wp_delete _ rfl _ _ 53 22 rfl 58 law32 Try.underlying53 _ b (c + 1) c _ rfl (by repeat (first | exact HM.out | apply MapIs.alloc | apply MapIs.drewN | apply MapIs.drew)) _ (.int .u32 a) rfl (key32 a a0 a1) trivial (by rw [E.out.2, HS.out]; rfl) ?_; intro w1 hm1 ht1))
  go_ret
  have K1 := (KB.below (b := b) (w := w) (by repeat (first | (with_reducible first | exact HB.out | apply below_alloc | apply pw_below_drewN | apply below_drew1 | apply below_drew) | (refine Below.setCell ?_ (by first | (simp; done) | (simp; omega)) _)))).trans (KB.turned ht1)
  exact ⟨rfl, ⟨K1.block HG.out hne, by rw [← own_del]; exact hm1, hne⟩, K1⟩
set_option maxRecDepth 100000 in
set_option maxHeartbeats 1000000 in
theorem GiveNo (g b : Nat) (base n a : Int) (M : Int → Option ByteArray) (c : Nat) (w : World) (h : PoolAt w g b base n M c) (a0 : 0 ≤ a) (a1 : a < 4294967296) (hM : (M a).isSome = false) :
    Calls Try.prog 12 #[.pointer (some ⟨g, 0, none⟩), .int .u32 a] w fun e w' => e = .returned (.int .i64 3) ∧ Below w.heap.size w w' := by
  have hg := h.1
  have hne := h.2.2
  have k0 := blk_cell h.1 0
  have k1 := blk_cell h.1 1
  have k2 := blk_cell h.1 2
  have zg := blk_lt h.1
  simp only [List.getElem?_toArray, List.getElem?_cons_zero, List.getElem?_cons_succ] at k0 k1 k2
  have HM := Aside0.mk h.2.1
  have huO := Try.underlying58
  have E := Aside0.mk (look32 M a)
  have HB := Aside0.mk (Below.refl w.heap.size w)
  have HG := Aside0.mk hg
  have HS := Aside0.mk hM
  clear h hM hg
  go_enter Try.func12, Try.ntmps12
  go_wp2_with (refine wp_lookup2 _ rfl _ _ 53 rfl 22 58 law32 Try.underlying53 _ (zeroOwner _) b c _ rfl (by repeat (first | exact HM.out | apply MapIs.alloc | apply MapIs.drewN | apply MapIs.drew)) _ (.int .u32 a) rfl (key32 a a0 a1) trivial ?_; rw [E.out.1, E.out.2, HS.out])
  go_ret
  exact ⟨rfl, by repeat (first | (with_reducible first | exact HB.out | apply below_alloc | apply pw_below_drewN | apply below_drew1 | apply below_drew) | (refine Below.setCell ?_ (by first | (simp; done) | (simp; omega)) _))⟩
set_option maxRecDepth 100000 in
set_option maxHeartbeats 1000000 in
theorem ClaimOut (g b : Nat) (base n a : Int) (M : Int → Option ByteArray) (c : Nat) (s : ByteArray) (w : World) (h : PoolAt w g b base n M c) (hv : Valid base n M c) (a0 : 0 ≤ a) (a1 : a < 4294967296) (hh : hasB base n a = false) :
    Calls Try.prog 10 #[.pointer (some ⟨g, 0, none⟩), .int .u32 a, .string s] w fun e w' => e = .returned (.int .i64 2) ∧ Below w.heap.size w w' := by
  have hg := h.1
  have hne := h.2.2
  have k0 := blk_cell h.1 0
  have k1 := blk_cell h.1 1
  have k2 := blk_cell h.1 2
  have zg := blk_lt h.1
  simp only [List.getElem?_toArray, List.getElem?_cons_zero, List.getElem?_cons_succ] at k0 k1 k2
  have HM := Aside0.mk h.2.1
  have huO := Try.underlying58
  have E := Aside0.mk (look32 M a)
  have HB := Aside0.mk (Below.refl w.heap.size w)
  have HG := Aside0.mk hg
  have HP := Aside0.mk h
  have HV := Aside0.mk hv
  have hc : c < 1000000000 := by
    have h2 := hv.n2
    have h3 : c ≤ n.toNat := by rw [hv.cn]; exact cnt_le _ _ _
    omega
  have HH := Aside0.mk hh
  clear h hv hg hh
  go_enter Try.func10, Try.ntmps10
  go_wp2_with (go_at_call 15; refine (Has g b base n a M c _ (HP.out.kb (by repeat (first | (with_reducible first | exact HB.out | apply below_alloc | apply pw_below_drewN | apply below_drew1 | apply below_drew) | (refine Below.setCell ?_ (by first | (simp; done) | (simp; omega)) _)))) HV.out a0 a1).mono ?_; rw [HH.out]; rintro e w1 ⟨rfl, hd1⟩; have hb1 := drawn_below hd1; have P1 := HP.out.kb hb1; clear k0 k1 k2 zg; have k0 := blk_cell P1.1 0; have k1 := blk_cell P1.1 1; have k2 := blk_cell P1.1 2; have zg := blk_lt P1.1; simp only [List.getElem?_toArray, List.getElem?_cons_zero, List.getElem?_cons_succ] at k0 k1 k2; replace HM := Aside0.mk P1.2.1; replace HG := Aside0.mk P1.1; replace HB := Aside0.mk (below_step HB.out hb1); clear P1 hb1 hd1)
  go_ret
  exact ⟨rfl, by repeat (first | (with_reducible first | exact HB.out | apply below_alloc | apply pw_below_drewN | apply below_drew1 | apply below_drew) | (refine Below.setCell ?_ (by first | (simp; done) | (simp; omega)) _))⟩
set_option maxRecDepth 100000 in
set_option maxHeartbeats 1000000 in
theorem ClaimEmpty (g b : Nat) (base n a : Int) (M : Int → Option ByteArray) (c : Nat) (s : ByteArray) (w : World) (h : PoolAt w g b base n M c) (hv : Valid base n M c) (a0 : 0 ≤ a) (a1 : a < 4294967296) (hh : hasB base n a = true) (hs : s.size = 0) :
    Calls Try.prog 10 #[.pointer (some ⟨g, 0, none⟩), .int .u32 a, .string s] w fun e w' => e = .returned (.int .i64 2) ∧ Below w.heap.size w w' := by
  have hg := h.1
  have hne := h.2.2
  have k0 := blk_cell h.1 0
  have k1 := blk_cell h.1 1
  have k2 := blk_cell h.1 2
  have zg := blk_lt h.1
  simp only [List.getElem?_toArray, List.getElem?_cons_zero, List.getElem?_cons_succ] at k0 k1 k2
  have HM := Aside0.mk h.2.1
  have huO := Try.underlying58
  have E := Aside0.mk (look32 M a)
  have HB := Aside0.mk (Below.refl w.heap.size w)
  have HG := Aside0.mk hg
  have HP := Aside0.mk h
  have HV := Aside0.mk hv
  have hc : c < 1000000000 := by
    have h2 := hv.n2
    have h3 : c ≤ n.toNat := by rw [hv.cn]; exact cnt_le _ _ _
    omega
  have HH := Aside0.mk hh
  obtain rfl : s = ⟨#[]⟩ := ByteArray.ext (Array.eq_empty_of_size_eq_zero hs)
  clear h hv hg hh hs
  go_enter Try.func10, Try.ntmps10
  go_wp2_with (go_at_call 15; refine (Has g b base n a M c _ (HP.out.kb (by repeat (first | (with_reducible first | exact HB.out | apply below_alloc | apply pw_below_drewN | apply below_drew1 | apply below_drew) | (refine Below.setCell ?_ (by first | (simp; done) | (simp; omega)) _)))) HV.out a0 a1).mono ?_; rw [HH.out]; rintro e w1 ⟨rfl, hd1⟩; have hb1 := drawn_below hd1; have P1 := HP.out.kb hb1; clear k0 k1 k2 zg; have k0 := blk_cell P1.1 0; have k1 := blk_cell P1.1 1; have k2 := blk_cell P1.1 2; have zg := blk_lt P1.1; simp only [List.getElem?_toArray, List.getElem?_cons_zero, List.getElem?_cons_succ] at k0 k1 k2; replace HM := Aside0.mk P1.2.1; replace HG := Aside0.mk P1.1; replace HB := Aside0.mk (below_step HB.out hb1); clear P1 hb1 hd1)
  go_ret
  exact ⟨rfl, by repeat (first | (with_reducible first | exact HB.out | apply below_alloc | apply pw_below_drewN | apply below_drew1 | apply below_drew) | (refine Below.setCell ?_ (by first | (simp; done) | (simp; omega)) _))⟩
set_option maxRecDepth 100000 in
set_option maxHeartbeats 1000000 in
theorem ClaimLong (g b : Nat) (base n a : Int) (M : Int → Option ByteArray) (c : Nat) (s : ByteArray) (w : World) (h : PoolAt w g b base n M c) (hv : Valid base n M c) (a0 : 0 ≤ a) (a1 : a < 4294967296) (hh : hasB base n a = true) (hs : ¬ s.size = 0) (hl : 32 < s.size) :
    Calls Try.prog 10 #[.pointer (some ⟨g, 0, none⟩), .int .u32 a, .string s] w fun e w' => e = .returned (.int .i64 2) ∧ Below w.heap.size w w' := by
  have hg := h.1
  have hne := h.2.2
  have k0 := blk_cell h.1 0
  have k1 := blk_cell h.1 1
  have k2 := blk_cell h.1 2
  have zg := blk_lt h.1
  simp only [List.getElem?_toArray, List.getElem?_cons_zero, List.getElem?_cons_succ] at k0 k1 k2
  have HM := Aside0.mk h.2.1
  have huO := Try.underlying58
  have E := Aside0.mk (look32 M a)
  have HB := Aside0.mk (Below.refl w.heap.size w)
  have HG := Aside0.mk hg
  have HP := Aside0.mk h
  have HV := Aside0.mk hv
  have hc : c < 1000000000 := by
    have h2 := hv.n2
    have h3 : c ≤ n.toNat := by rw [hv.cn]; exact cnt_le _ _ _
    omega
  have HH := Aside0.mk hh
  have e1 : ¬ s.toList = [] := fun h_ => hs (by have := congrArg List.length h_; rw [ByteArray.toList_eq] at this; simpa using this)
  have e2 : (!s.toList.isEmpty) = true := by cases hq : s.toList with | nil => exact absurd hq e1 | cons a b => rfl
  have e3 : s.toList.isEmpty = false := by cases hq : s.toList with | nil => exact absurd hq e1 | cons a b => rfl
  have e4 : (s = ByteArray.empty) = False := eq_false (fun h_ => hs (by rw [h_]; rfl))
  clear h hv hg hh hs
  go_enter Try.func10, Try.ntmps10
  go_wp2_with (go_at_call 15; refine (Has g b base n a M c _ (HP.out.kb (by repeat (first | (with_reducible first | exact HB.out | apply below_alloc | apply pw_below_drewN | apply below_drew1 | apply below_drew) | (refine Below.setCell ?_ (by first | (simp; done) | (simp; omega)) _)))) HV.out a0 a1).mono ?_; rw [HH.out]; rintro e w1 ⟨rfl, hd1⟩; have hb1 := drawn_below hd1; have P1 := HP.out.kb hb1; clear k0 k1 k2 zg; have k0 := blk_cell P1.1 0; have k1 := blk_cell P1.1 1; have k2 := blk_cell P1.1 2; have zg := blk_lt P1.1; simp only [List.getElem?_toArray, List.getElem?_cons_zero, List.getElem?_cons_succ] at k0 k1 k2; replace HM := Aside0.mk P1.2.1; replace HG := Aside0.mk P1.1; replace HB := Aside0.mk (below_step HB.out hb1); clear P1 hb1 hd1)
  go_ret
  exact ⟨rfl, by repeat (first | (with_reducible first | exact HB.out | apply below_alloc | apply pw_below_drewN | apply below_drew1 | apply below_drew) | (refine Below.setCell ?_ (by first | (simp; done) | (simp; omega)) _))⟩
set_option maxRecDepth 100000 in
set_option maxHeartbeats 1000000 in
theorem ClaimHave (g b : Nat) (base n a : Int) (M : Int → Option ByteArray) (c : Nat) (s : ByteArray) (w : World) (h : PoolAt w g b base n M c) (hv : Valid base n M c) (a0 : 0 ≤ a) (a1 : a < 4294967296) (hh : hasB base n a = true) (hs : ¬ s.size = 0) (hl : s.size ≤ 32) (hM : (M a).isSome = true) :
    Calls Try.prog 10 #[.pointer (some ⟨g, 0, none⟩), .int .u32 a, .string s] w fun e w' => e = .returned (.int .i64 9) ∧ Below w.heap.size w w' := by
  have hg := h.1
  have hne := h.2.2
  have k0 := blk_cell h.1 0
  have k1 := blk_cell h.1 1
  have k2 := blk_cell h.1 2
  have zg := blk_lt h.1
  simp only [List.getElem?_toArray, List.getElem?_cons_zero, List.getElem?_cons_succ] at k0 k1 k2
  have HM := Aside0.mk h.2.1
  have huO := Try.underlying58
  have E := Aside0.mk (look32 M a)
  have HB := Aside0.mk (Below.refl w.heap.size w)
  have HG := Aside0.mk hg
  have HP := Aside0.mk h
  have HV := Aside0.mk hv
  have hc : c < 1000000000 := by
    have h2 := hv.n2
    have h3 : c ≤ n.toNat := by rw [hv.cn]; exact cnt_le _ _ _
    omega
  have HH := Aside0.mk hh
  have e1 : ¬ s.toList = [] := fun h_ => hs (by have := congrArg List.length h_; rw [ByteArray.toList_eq] at this; simpa using this)
  have e2 : (!s.toList.isEmpty) = true := by cases hq : s.toList with | nil => exact absurd hq e1 | cons a b => rfl
  have e3 : s.toList.isEmpty = false := by cases hq : s.toList with | nil => exact absurd hq e1 | cons a b => rfl
  have e4 : (s = ByteArray.empty) = False := eq_false (fun h_ => hs (by rw [h_]; rfl))
  have HS := Aside0.mk hM
  clear h hv hg hh hs hM
  go_enter Try.func10, Try.ntmps10
  go_wp2_with (first | (go_at_call 15; refine (Has g b base n a M c _ (HP.out.kb (by repeat (first | (with_reducible first | exact HB.out | apply below_alloc | apply pw_below_drewN | apply below_drew1 | apply below_drew) | (refine Below.setCell ?_ (by first | (simp; done) | (simp; omega)) _)))) HV.out a0 a1).mono ?_; rw [HH.out]; rintro e w1 ⟨rfl, hd1⟩; have hb1 := drawn_below hd1; have P1 := HP.out.kb hb1; clear k0 k1 k2 zg; have k0 := blk_cell P1.1 0; have k1 := blk_cell P1.1 1; have k2 := blk_cell P1.1 2; have zg := blk_lt P1.1; simp only [List.getElem?_toArray, List.getElem?_cons_zero, List.getElem?_cons_succ] at k0 k1 k2; replace HM := Aside0.mk P1.2.1; replace HG := Aside0.mk P1.1; replace HB := Aside0.mk (below_step HB.out hb1); clear P1 hb1 hd1) | (refine wp_lookup2 _ rfl _ _ 53 rfl 22 58 law32 Try.underlying53 _ (zeroOwner _) b c _ rfl (by repeat (first | exact HM.out | apply MapIs.alloc | apply MapIs.drewN | apply MapIs.drew)) _ (.int .u32 a) rfl (key32 a a0 a1) trivial ?_; rw [E.out.1, E.out.2, HS.out]))
  go_ret
  exact ⟨rfl, by repeat (first | (with_reducible first | exact HB.out | apply below_alloc | apply pw_below_drewN | apply below_drew1 | apply below_drew) | (refine Below.setCell ?_ (by first | (simp; done) | (simp; omega)) _))⟩
set_option maxRecDepth 100000 in
set_option maxHeartbeats 1000000 in
theorem ClaimYes (g b : Nat) (base n a : Int) (M : Int → Option ByteArray) (c : Nat) (s : ByteArray) (w : World) (h : PoolAt w g b base n M c) (hv : Valid base n M c) (a0 : 0 ≤ a) (a1 : a < 4294967296) (hh : hasB base n a = true) (hs : ¬ s.size = 0) (hl : s.size ≤ 32) (hM : (M a).isSome = false) :
    Calls Try.prog 10 #[.pointer (some ⟨g, 0, none⟩), .int .u32 a, .string s] w fun e w' => e = .returned (.int .i64 0) ∧ PoolAt w' g b base n (pput M a s) (c + 1) ∧ KB b w w' := by
  have hg := h.1
  have hne := h.2.2
  have k0 := blk_cell h.1 0
  have k1 := blk_cell h.1 1
  have k2 := blk_cell h.1 2
  have zg := blk_lt h.1
  simp only [List.getElem?_toArray, List.getElem?_cons_zero, List.getElem?_cons_succ] at k0 k1 k2
  have HM := Aside0.mk h.2.1
  have huO := Try.underlying58
  have E := Aside0.mk (look32 M a)
  have HB := Aside0.mk (Below.refl w.heap.size w)
  have HG := Aside0.mk hg
  have HP := Aside0.mk h
  have HV := Aside0.mk hv
  have hc : c < 1000000000 := by
    have h2 := hv.n2
    have h3 : c ≤ n.toNat := by rw [hv.cn]; exact cnt_le _ _ _
    omega
  have HH := Aside0.mk hh
  have e1 : ¬ s.toList = [] := fun h_ => hs (by have := congrArg List.length h_; rw [ByteArray.toList_eq] at this; simpa using this)
  have e2 : (!s.toList.isEmpty) = true := by cases hq : s.toList with | nil => exact absurd hq e1 | cons a b => rfl
  have e3 : s.toList.isEmpty = false := by cases hq : s.toList with | nil => exact absurd hq e1 | cons a b => rfl
  have e4 : (s = ByteArray.empty) = False := eq_false (fun h_ => hs (by rw [h_]; rfl))
  have HS := Aside0.mk hM
  clear h hv hg hh hs hM
  go_enter Try.func10, Try.ntmps10
  go_wp2_with (first | (go_at_call 15; refine (Has g b base n a M c _ (HP.out.kb (by repeat (first | (with_reducible first | exact HB.out | apply below_alloc | apply pw_below_drewN | apply below_drew1 | apply below_drew) | (refine Below.setCell ?_ (by first | (simp; done) | (simp; omega)) _)))) HV.out a0 a1).mono ?_; rw [HH.out]; rintro e w1 ⟨rfl, hd1⟩; have hb1 := drawn_below hd1; have P1 := HP.out.kb hb1; clear k0 k1 k2 zg; have k0 := blk_cell P1.1 0; have k1 := blk_cell P1.1 1; have k2 := blk_cell P1.1 2; have zg := blk_lt P1.1; simp only [List.getElem?_toArray, List.getElem?_cons_zero, List.getElem?_cons_succ] at k0 k1 k2; replace HM := Aside0.mk P1.2.1; replace HG := Aside0.mk P1.1; replace HB := Aside0.mk (below_step HB.out hb1); clear P1 hb1 hd1) | (refine wp_lookup2 _ rfl _ _ 53 rfl 22 58 law32 Try.underlying53 _ (zeroOwner _) b c _ rfl (by repeat (first | exact HM.out | apply MapIs.alloc | apply MapIs.drewN | apply MapIs.drew)) _ (.int .u32 a) rfl (key32 a a0 a1) trivial ?_; rw [E.out.1, E.out.2, HS.out]) | (refine wp_update _ rfl _ _ _ 53 rfl 22 58 law32 Try.underlying53 _ b c _ rfl (by repeat (first | exact HM.out | apply MapIs.alloc | apply MapIs.drewN | apply MapIs.drew)) hc _ (.int .u32 a) rfl (key32 a a0 a1) trivial (.agg #[.string s]) rfl ?_; intro w3 hm3 ht3; go_must (rw [own_put, E.out.2, HS.out, if_neg (by decide)] at hm3)))
  go_ret
  have K1 := (KB.below (b := b) (w := w) (by repeat (first | (with_reducible first | exact HB.out | apply below_alloc | apply pw_below_drewN | apply below_drew1 | apply below_drew) | (refine Below.setCell ?_ (by first | (simp; done) | (simp; omega)) _)))).trans (KB.turned ht3)
  exact ⟨rfl, ⟨K1.block HP.out.1 hne, hm3, hne⟩, K1⟩
set_option maxRecDepth 100000 in
set_option maxHeartbeats 1000000 in
theorem NewNo (base n : Int) (w : World) (h0 : 0 ≤ base) (h1 : base < 4294967296) (n0 : -9223372036854775808 ≤ n) (n1 : n ≤ 9223372036854775807) (h : ¬ (1 ≤ n ∧ n ≤ 1024 ∧ 1 ≤ base ∧ base + n ≤ 4294967296)) :
    Calls Try.prog 6 #[.int .u32 base, .int .i64 n] w fun e w' => e = .returned (.tuple #[.pointer none, .int .i64 2]) ∧ Drawn0 w w' := by
  by_cases c1 : n < 1
  · go_enter Try.func6, Try.ntmps6
    go_wp2_with fail
    repeat (go_quiet (fail); try go_wp2)
    go_ret2
    exact ⟨rfl, by repeat (first | exact Drawn0.refl _ | apply Drawn0.step)⟩
  by_cases c2 : n > 1024
  · go_enter Try.func6, Try.ntmps6
    go_wp2_with fail
    repeat (go_quiet (fail); try go_wp2)
    go_ret2
    exact ⟨rfl, by repeat (first | exact Drawn0.refl _ | apply Drawn0.step)⟩
  by_cases c3 : base = 0
  · have b3 : (base == 0) = true := beq_iff_eq.mpr c3
    have C := Aside0.mk c3
    clear c3
    go_enter Try.func6, Try.ntmps6
    go_wp2_with fail
    repeat (go_quiet (fail); try go_wp2)
    go_ret2
    exact ⟨rfl, by repeat (first | exact Drawn0.refl _ | apply Drawn0.step)⟩
  have b3 : (base == 0) = false := beq_eq_false_iff_ne.mpr c3
  have s1 : IntKind.u32.wrap (n - 1) = n - 1 := by rw [IntKind.wrap_u32]; omega
  have s2 : IntKind.u32.wrap (4294967295 - (n - 1)) = 4294967295 - (n - 1) := by rw [IntKind.wrap_u32]; omega
  have c4 : base > 4294967295 - (n - 1) := by omega
  go_enter Try.func6, Try.ntmps6
  go_wp2_with fail
  repeat (go_quiet (fail); try go_wp2)
  go_ret2
  exact ⟨rfl, by repeat (first | exact Drawn0.refl _ | apply Drawn0.step)⟩
set_option maxRecDepth 100000 in
set_option maxHeartbeats 1000000 in
theorem NewYes (base n : Int) (w : World) (n1 : 1 ≤ n) (n2 : n ≤ 1024) (b1 : 1 ≤ base) (b2 : base + n ≤ 4294967296) :
    Calls Try.prog 6 #[.int .u32 base, .int .i64 n] w fun e w' => ∃ g b, e = .returned (.tuple #[.pointer (some ⟨g, 0, none⟩), .int .i64 0]) ∧ PoolAt w' g b base n (fun _ => none) 0 ∧ w.heap.size ≤ g ∧ w.heap.size ≤ b ∧ Below w.heap.size w w' := by
  have b3 : (base == 0) = false := beq_eq_false_iff_ne.mpr (by omega)
  have s1 : IntKind.u32.wrap (n - 1) = n - 1 := by rw [IntKind.wrap_u32]; omega
  have s2 : IntKind.u32.wrap (4294967295 - (n - 1)) = 4294967295 - (n - 1) := by rw [IntKind.wrap_u32]; omega
  have hmm := @run_makeMap Try.prog
  have hcl : ∀ ty, (Builtin.clear_ #[53] ty #[.map (some w.heap.size)]).run Try.prog ((w.alloc (.map #[] 0)).alloc (.cells #[.int .u32 base, .int .i64 n, .map (some w.heap.size)] 55)) = .ok (.tuple #[]) ((w.alloc (.map #[] 0)).alloc (.cells #[.int .u32 base, .int .i64 n, .map (some w.heap.size)] 55)) := fun ty => clear_empty Try.underlying53 (blk_alloc (blk_new w _) _) ty
  have HB := Aside0.mk (Below.refl w.heap.size w)
  go_enter Try.func6, Try.ntmps6
  go_wp2_with fail
  repeat (go_quiet (fail); try go_wp2)
  go_ret2
  have m0 : MapIs Try.prog 22 (.agg #[.string ⟨#[]⟩]) (w.alloc (.map #[] 0)) w.heap.size (own32 fun _ => none) 0 := (MapIs.made Try.prog 22 _ w).congr (fun l _ => by unfold own32; split <;> rfl)
  exact ⟨w.heap.size + 1, w.heap.size, rfl, ⟨hw_at (w := w.alloc (.map #[] 0)) (by simp) _, m0.alloc _, by omega⟩, by omega, Nat.le_refl _, by repeat (first | (with_reducible first | exact HB.out | apply below_alloc | apply pw_below_drewN | apply below_drew1 | apply below_drew) | (refine Below.setCell ?_ (by first | (simp; done) | (simp; omega)) _))⟩
end Go.Proofs.YtjpnebhhpogebaaHPool
