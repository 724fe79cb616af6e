import Derived.Test.YtjpnebhhpogebaaHPool3
namespace Go.Proofs.YtjpnebhhpogebaaHPool
open Go.RowKit Go.Proofs.YtjpnebhhpogebaaW.PrintWords Go.Proofs.YtjpnebhhpogebaaHW Go.Proofs.YtjpnebhhpogebaaHG
set_option linter.unusedVariables false
set_option linter.unusedSimpArgs false
/-- The least one is the k-th. -/
theorem LeastIs.nth {base n : Int} {M : Int → Option ByteArray} {addr : Int} {is : Bool} (h : LeastIs base n M addr is) (k : Nat) (hk : (k : Int) < n) (h0 : ∀ j : Nat, j < k → (M (base + j)).isSome = true) (h1 : (M (base + k)).isSome = false) : addr = base + k ∧ is = true := by
  rcases h with ⟨rfl, j, hj, rfl, hM, hA⟩ | ⟨rfl, rfl, hA⟩
  · refine ⟨?_, rfl⟩
    by_cases e : j = k
    · rw [e]
    · by_cases e2 : j < k
      · have := h0 j e2; rw [hM] at this; exact absurd this (by simp)
      · have := hA k (by omega); rw [h1] at this; exact absurd this (by simp)
  · have := hA k hk; rw [h1] at this; exact absurd this (by simp)
theorem LeastIs.full {base n : Int} {M : Int → Option ByteArray} {addr : Int} {is : Bool} (h : LeastIs base n M addr is) (h0 : ∀ j : Nat, (j : Int) < n → (M (base + j)).isSome = true) : addr = 0 ∧ is = false := by
  rcases h with ⟨rfl, j, hj, rfl, hM, hA⟩ | ⟨rfl, rfl, hA⟩
  · have := h0 j hj; rw [hM] at this; exact absurd this (by simp)
  · exact ⟨rfl, rfl⟩
theorem valid0 (base n : Int) (n1 : 1 ≤ n) (n2 : n ≤ 1024) (b1 : 1 ≤ base) (b2 : base + n ≤ 4294967296) : Valid base n (fun _ => none) 0 :=
  ⟨n1, n2, b1, b2, fun a h => absurd h (by simp), by
    have : ∀ k, cnt base (fun _ => none) k = 0 := fun k => by
      induction k with
      | zero => rfl
      | succ k ih => simp [cnt, ih]
    exact (this _).symm⟩
noncomputable def Ma : Int → Option ByteArray := pput (fun _ => none) 10 ⟨#[97]⟩
theorem Ma10 : Ma 10 = some ⟨#[97]⟩ := by unfold Ma pput; rw [if_pos rfl]
theorem Ma11 : Ma 11 = none := by unfold Ma pput; rw [if_neg (by decide)]
theorem validA : Valid 10 2 Ma 1 := Valid.put (valid0 10 2 (by decide) (by decide) (by decide) (by decide)) (by decide) (by decide) rfl
def AliveRet (w : World) (e : Ending) (w' : World) : Prop := e = .returned (.bool true) ∧ Below w.heap.size w w'
set_option maxRecDepth 100000 in
set_option maxHeartbeats 2000000 in
theorem alive (w : World) : Calls Try.prog 7 #[] w (AliveRet w) := by
  have HB := Aside0.mk (Below.refl w.heap.size w)
  have tok1 : True := trivial
  have tok2 : True := trivial
  have tok3 : True := trivial
  have tok4 : True := trivial
  have tok5 : True := trivial
  have tok6 : True := trivial
  have tok7 : True := trivial
  have tok8 : True := trivial
  have tok9 : True := trivial
  have tok10 : True := trivial
  have tok11 : True := trivial
  go_enter Try.func7, Try.ntmps7
  go_wp2_with (first
    | (go_at_call 6; have t_ := tok1; clear t_; go_must (refine (NewYes 10 2 _ (by decide) (by decide) (by decide) (by decide)).mono ?_); rintro e w1 ⟨g, b, rfl, hP, hg0, hb0, hbl⟩; have P := Aside0.mk hP; have hg1 := hg0; have hb1 := hb0; replace HB := Aside0.mk (below_step HB.out hbl); clear hP hg0 hb0 hbl tok1)
    | (go_at_call 6; have t_ := tok2; clear t_; go_must (refine (NewNo 4294967295 2 _ (by decide) (by decide) (by decide) (by decide) (by omega)).mono ?_); rintro e w2 ⟨rfl, hd⟩; replace HB := Aside0.mk (below_step HB.out (drawn_below hd)); replace P := Aside0.mk (P.out.kb (drawn_below hd)); clear hd tok2)
    | (go_at_call 8; have t_ := tok3; clear t_; go_must (refine (Least g b 10 2 _ 0 _ P.out (valid0 10 2 (by decide) (by decide) (by decide) (by decide))).mono ?_); rintro e w3 ⟨addr, is, rfl, hL, hb⟩; obtain ⟨rfl, rfl⟩ := hL.nth 0 (by decide) (fun j hj => absurd hj (by omega)) rfl; replace HB := Aside0.mk (below_step HB.out hb); replace P := Aside0.mk (P.out.kb hb); clear hb hL tok3)
    | (go_at_call 10; have t_ := tok4; clear t_; go_must (refine (ClaimYes g b 10 2 10 _ 0 ⟨#[97]⟩ _ P.out (valid0 10 2 (by decide) (by decide) (by decide) (by decide)) (by decide) (by decide) (by decide) (by decide) (by decide) rfl).mono ?_); rintro e w4 ⟨rfl, hP, hk⟩; replace P := Aside0.mk (show PoolAt w4 g b 10 2 Ma 1 from hP); replace HB := Aside0.mk (KB.to_below HB.out hk (by omega) HB.out.size); clear hP hk tok4)
    | (go_at_call 10; have t_ := tok5; clear t_; go_must (refine (ClaimHave g b 10 2 10 _ 1 ⟨#[98]⟩ _ P.out validA (by decide) (by decide) (by decide) (by decide) (by decide) (by rw [Ma10]; rfl)).mono ?_); rintro e w5 ⟨rfl, hb⟩; replace P := Aside0.mk (P.out.kb hb); replace HB := Aside0.mk (below_step HB.out hb); clear hb tok5)
    | (go_at_call 10; have t_ := tok6; clear t_; go_must (refine (ClaimOut g b 10 2 12 _ 1 ⟨#[98]⟩ _ P.out validA (by decide) (by decide) (by decide)).mono ?_); rintro e w6 ⟨rfl, hb⟩; replace P := Aside0.mk (P.out.kb hb); replace HB := Aside0.mk (below_step HB.out hb); clear hb tok6)
    | (go_at_call 8; have t_ := tok7; clear t_; go_must (refine (Least g b 10 2 _ 1 _ P.out validA).mono ?_); rintro e w7 ⟨addr, is, rfl, hL, hb⟩; obtain ⟨rfl, rfl⟩ := hL.nth 1 (by decide) (fun j hj => by rw [show j = 0 by omega]; show (Ma 10).isSome = true; rw [Ma10]; rfl) (by show (Ma 11).isSome = false; rw [Ma11]; rfl); replace HB := Aside0.mk (below_step HB.out hb); replace P := Aside0.mk (P.out.kb hb); clear hb hL tok7)
    | (go_at_call 12; have t_ := tok8; clear t_; go_must (refine (GiveNo g b 10 2 11 _ 1 _ P.out (by decide) (by decide) (by rw [Ma11]; rfl)).mono ?_); rintro e w8 ⟨rfl, hb⟩; replace P := Aside0.mk (P.out.kb hb); replace HB := Aside0.mk (below_step HB.out hb); clear hb tok8)
    | (go_at_call 9; have t_ := tok9; clear t_; go_must (refine (Free g b 10 2 _ 1 _ P.out validA).mono ?_); rintro e w9 ⟨rfl, hd⟩; replace P := Aside0.mk (P.out.kb (drawn_below hd)); replace HB := Aside0.mk (below_step HB.out (drawn_below hd)); clear hd tok9)
    | (go_at_call 15; have t_ := tok10; clear t_; go_must (refine (Has g b 10 2 11 _ 1 _ P.out validA (by decide) (by decide)).mono ?_); rintro e w10 ⟨rfl, hd⟩; replace P := Aside0.mk (P.out.kb (drawn_below hd)); replace HB := Aside0.mk (below_step HB.out (drawn_below hd)); clear hd tok10)
    | (go_at_call 15; have t_ := tok11; clear t_; go_must (refine (Has g b 10 2 12 _ 1 _ P.out validA (by decide) (by decide)).mono ?_); rintro e w11 ⟨rfl, hd⟩; replace P := Aside0.mk (P.out.kb (drawn_below hd)); replace HB := Aside0.mk (below_step HB.out (drawn_below hd)); clear hd tok11))
  go_ret
  exact ⟨congrArg (fun z => Ending.returned (.bool (!z))) (show hasB 10 2 12 = false from by decide), HB.out⟩
def ListLenRet (c : Nat) (w : World) (e : Ending) (w' : World) : Prop := ∃ ad cap, e = .returned (.slice ad c cap) ∧ Below w.heap.size w w'
theorem ListLen (g b : Nat) (base n : Int) (M : Int → Option ByteArray) (c : Nat) (w : World) (h : PoolAt w g b base n M c) (hv : Valid base n M c) :
    Calls Try.prog 11 #[.pointer (some ⟨g, 0, none⟩)] w (ListLenRet c w) := by
  refine (List_ g b base n M c w h hv).mono ?_
  rintro e w' ⟨ad, cap, rfl, _, hb⟩
  rw [leases_len, ← hv.cn]
  exact ⟨ad, cap, rfl, hb⟩
theorem cellInt {k : IntKind} {w : World} {A0 : Option Addr} {l0 : List Int} (hr0 : Kd.C (Kd.int k) w A0 l0.length l0) (j : Nat) (x : Int) (hx : l0[j]? = some x) : ∃ ad, A0 = some ad ∧ w.cell? (ad.add j) = some (.int k x) := by
  have hl : j < l0.length := (List.getElem?_eq_some_iff.1 hx).1
  obtain ⟨ad, rfl, hcell⟩ := hr0.2.2 (by omega)
  refine ⟨ad, rfl, ?_⟩
  obtain ⟨c, hc1, hc2, hc3⟩ := hcell j x hx
  have hc4 := hc3 0 (.int k x) (by rw [show c = [.int k x] from hc2]; rfl)
  simpa only [Kd.int, Kd.scalar, Nat.mul_one, Nat.add_zero] using hc4
end Go.Proofs.YtjpnebhhpogebaaHPool
