/- The pool's copy: a walk over the map, each entry laid into a new one. -/
import Derived.Test.YtjpnebhhpogebaaHPool5
import Derived.Test.YtjpnebhhpogebaaHPool4
import Derived.Maps.RangeWalk
import Derived.BigRegion
import Derived.StillTailTactics
namespace Go.Proofs.YtjpnebhhpogebaaHPool
open Go.RowKit Go.Proofs.YtjpnebhhpogebaaW.PrintWords Go.Proofs.YtjpnebhhpogebaaHW Go.Proofs.YtjpnebhhpogebaaHG
set_option linter.unusedVariables false
set_option linter.unusedSimpArgs false
theorem ownsMap_heap {P : Program} {k : TypeId} {w w' : World} {b n : Nat} {D : DataW Value} (h : w.ownsMap P k RG b n D) (hb : w'.heap[b]? = w.heap[b]?) : w'.ownsMap P k RG b n D := by
  obtain ⟨es, clock, h1, h2⟩ := h
  exact ⟨es, clock, hb.trans h1, h2⟩
/-- The new pool of a copy that is under way. -/
structure CopyAt (w : World) (b c : Nat) (base n : Int) (M : Int → Option ByteArray) (D : DataW Value) (bq gq r : Nat) (left : Lit → Bool) (left' : Nat) (Mq : Int → Option ByteArray) (cq : Nat) (wr : World) : Prop where
  rg : wr.ranges Try.prog 22 RG b r c D left left'
  cn : cq + left' ≤ c
  mp : MapIs Try.prog 22 (.agg #[.string ⟨#[]⟩]) wr bq (own32 Mq) cq
  pl : wr.heap[gq]? = some (.cells #[.int .u32 base, .int .i64 n, .map (some bq)] 55 (0, 0))
  eq : ∀ a, Mq a = if left (.int .u32 a) = true then none else M a
  bl : Below w.heap.size w wr
  hs : ∀ l, left l = true → Maps.has D l = true
set_option maxRecDepth 100000 in
set_option maxHeartbeats 1000000 in
theorem Copy (g b : Nat) (base n : Int) (M : Int → Option ByteArray) (c : Nat) (w : World) (h : PoolAt w g b base n M c) (hv : Valid base n M c) :
    Calls Try.prog 16 #[.pointer (some ⟨g, 0, none⟩)] w fun e w' => ∃ g' b', e = .returned (.pointer (some ⟨g', 0, none⟩)) ∧ PoolAt w' g' b' base n M c ∧ w.heap.size ≤ g' ∧ w.heap.size ≤ b' ∧ Below w.heap.size w w' := by
  have hmm := @run_makeMap Try.prog
  have n1 := hv.n1
  have n2 := hv.n2
  have hc : c ≤ 1024 := by have := hv.cn; have := cnt_le base M n.toNat; omega
  have k0 := blk_cell h.1 0
  have k1 := blk_cell h.1 1
  have k2 := blk_cell h.1 2
  simp only [List.getElem?_toArray, List.getElem?_cons_zero, List.getElem?_cons_succ] at k0 k1 k2
  have m0 := blk_cell (blk_alloc h.1 (.map #[] 0)) 0
  have m1 := blk_cell (blk_alloc h.1 (.map #[] 0)) 1
  have p2 := blk_cell (blk_alloc (blk_alloc h.1 (.map #[] 0)) (.cells #[.int .u32 base, .int .i64 n, .map (some w.heap.size)] 55)) 2
  simp only [List.getElem?_toArray, List.getElem?_cons_zero, List.getElem?_cons_succ] at m0 m1 p2
  have HB := Aside0.mk (Below.refl w.heap.size w)
  have HP := Aside0.mk h
  have HC := Aside0.mk hc
  have zb := h.2.1.lt
  obtain ⟨D, hown, hs, hD⟩ := h.2.1
  have HO := Aside0.mk hown
  have HS := Aside0.mk hs
  have HD := Aside0.mk hD
  clear hown hs hD h hv hc
  go_enter Try.func16, Try.ntmps16
  go_wp2_with fail
  go_region
  have e1 : ((w.alloc (.map #[] 0)).alloc (.cells #[.int .u32 base, .int .i64 n, .map (some w.heap.size)] 55)).drew.heap.size = w.heap.size + 2 := by show ((w.alloc _).alloc _).heap.size = _; simp
  have HB2 := Aside0.mk (below_drew1 (below_alloc (below_alloc HB.out (.map #[] 0)) (.cells #[.int .u32 base, .int .i64 n, .map (some w.heap.size)] 55)))
  have HM2 := Aside0.mk ((((MapIs.made Try.prog 22 (.agg #[.string ⟨#[]⟩]) w).congr (M' := own32 fun _ => none) (fun l _ => by unfold own32; split <;> rfl)).alloc (.cells #[.int .u32 base, .int .i64 n, .map (some w.heap.size)] 55)).drew)
  have HP2 := Aside0.mk (blk_drew (hw_at (w := w.alloc (.map #[] 0)) (n := w.heap.size + 1) (by simp) (.cells #[.int .u32 base, .int .i64 n, .map (some w.heap.size)] 55 (0, 0))))
  go_wp2_with (at_range; refine wpList_range_own _ rfl _ 53 rfl 22 58 law32 Try.underlying53 RG b c D rfl (ownsMap_heap HO.out ?hhp) ?_; (case hhp => exact HB2.out.block b zb); intro w0 hrg0 hg0 hs0)
  go_frame
  generalize ((w.alloc (.map #[] 0)).alloc (.cells #[.int .u32 base, .int .i64 n, .map (some w.heap.size)] 55)).drew = wp at *
  rw [e1] at hrg0 hs0 ⊢
  go_loopw [] (fun wr => ∃ (left : Lit → Bool) (left' : Nat) (Mq : Int → Option ByteArray) (cq : Nat), Aside0 (CopyAt w b c base n M D w.heap.size (w.heap.size + 1) (w.heap.size + 2) left left' Mq cq wr)) (fun wr => wr.rangeLeft b (w.heap.size + 2))
  case atStart =>
    exact ⟨_, _, _, 0, ⟨⟨hrg0, by rw [HS.out]; omega, HM2.out.kept hg0 (by simp), (hg0.block _ (by rw [e1]; omega) (by simp)).trans HP2.out, fun a => by
      have hd := HD.out (.int .u32 a) trivial
      rw [hd.1]
      show none = if ((M a).map _).isSome = true then none else M a
      cases M a <;> rfl, HB2.out.grown hg0 (by rw [e1]; omega) (fun j hj => by cases hj), fun l hl => hl⟩⟩⟩
  case round =>
    obtain ⟨left, left', Mq, cq, H⟩ := hrel
    have hrg := H.out.rg
    go_wp2_with (at_next; refine wpList_next_ranges _ rfl _ rfl 22 law32 RG (Value.int .u32) (fun v : Value => v) (fun key kl hk => by obtain ⟨x, rfl, _⟩ := Maps.keyOf_int_inv Try.underlying22 hk; exact ⟨x, rfl⟩) (fun v y _ => ⟨v, rfl⟩) b (w.heap.size + 2) c D left left' rfl hrg ?_ ?_)
    · intro hc0 hl0
      go_wp2
      go_ret
      have h1 := H.out.mp
      have e : Mq = M := by funext a; rw [H.out.eq a, hl0]; rfl
      rw [e] at h1
      have e2 := MapIs.count law32 h1 (HP.out.kb H.out.bl).2.1
      rw [e2] at h1
      exact ⟨w.heap.size + 1, w.heap.size, rfl, ⟨H.out.pl, h1, by omega⟩, by omega, Nat.le_refl _, H.out.bl⟩
    · intro x v kl y1 y2 w1 left1 hkey hlk hv hat hrg1 hlt hg1 hs1 hen
      obtain ⟨x', ex, rfl, hwx⟩ := Maps.keyOf_int_inv Try.underlying22 hkey
      cases ex
      have hd := HD.out (.int .u32 x) trivial
      have hh := H.out.hs _ hlk
      have hv1 : y1 = .held v := by simp only [RG, Option.some.injEq, Prod.mk.injEq] at hv; exact hv.1.symm
      rw [hd.1] at hh
      rw [hat, hv1] at hd
      have hd2 := hd.2
      simp only [Lit.wf, Bool.and_eq_true, decide_eq_true_eq] at hwx
      have x0 : 0 ≤ x := hwx.1
      have x1 : x < 4294967296 := Int.lt_add_one_of_le (show x ≤ 4294967295 from hwx.2)
      have ho : own32 M (.int .u32 x) = (M x).map fun s => .agg #[.string s] := rfl
      rw [ho] at hh hd2
      cases hM : M x with
      | none => rw [hM] at hh; exact absurd hh (by simp)
      | some s =>
        rw [hM] at hd2
        obtain rfl : v = .agg #[.string s] := by simpa using hd2
        have zg1 : w.heap.size + 1 < w1.heap.size := by rw [hs1]; exact blk_lt H.out.pl
        have P1 := (hg1.block (w.heap.size + 1) (blk_lt H.out.pl) (by simp)).trans H.out.pl
        have q2 := blk_cell P1 2
        simp only [List.getElem?_toArray, List.getElem?_cons_zero, List.getElem?_cons_succ] at q2
        have ne : ¬ w.heap.size + 1 = w1.heap.size := by omega
        have HM1 := Aside0.mk (H.out.mp.kept hg1 (by simp))
        have HP1 := Aside0.mk P1
        have HG1 := Aside0.mk hg1
        have HR1 := Aside0.mk hrg1
        have HX := Aside0.mk hM
        have HLK := Aside0.mk hlk
        have HRG := Aside0.mk hrg
        have HLT := Aside0.mk hlt
        have huO := Try.underlying58
        clear hh hd2 ho hd hv hv1 hat hrg1 hg1 hM P1 hlk hrg hrg0 hg0 hs0 hlt hs1 hwx hkey e1
        go_wp2_with fail
        have hcq : cq < 1000000000 := by have h1 := H.out.cn; have h2 := HC.out; omega
        have HN := Aside0.mk (show Mq x = none by rw [H.out.eq, HLK.out]; rfl)
        have E := Aside0.mk (look32 Mq x)
        have HM3 := Aside0.mk ((HM1.out.alloc (.cells #[.string s] 58)).drew)
        have HR3 := Aside0.mk (show (w1.alloc (.cells #[.string s] 58)).drew.ranges Try.prog 22 RG b (w.heap.size + 2) c D (fun z => left z && !z.sameKey (.int .u32 x)) left1 from HR1.out.alloc _)
        have HB3 := Aside0.mk (below_drew1 (below_alloc (H.out.bl.grown HG1.out (by have := H.out.bl.size; omega) (fun j hj => by cases hj; omega)) (.cells #[.string s] 58)))
        have HP3 := Aside0.mk (blk_drew (blk_alloc HP1.out (.cells #[.string s] 58)))
        have t1 := blk_cell HP3.out 2
        have t2 := blk_cell (blk_drew (blk_new w1 (.cells #[.string s] 58))) 0
        simp only [List.getElem?_toArray, List.getElem?_cons_zero, List.getElem?_cons_succ] at t1 t2
        refine wp_region_still_tail 6 (by kernel_rfl) (by kernel_rfl) ?_
        simp only [List.take_succ_cons, List.take_zero, List.drop_succ_cons, List.drop_zero]
        change wpStill _ _ (w1.alloc (.cells #[.string s] 58)).drew (fun a_ => wpList _ _ _ _ a_ (w1.alloc (.cells #[.string s] 58)).drew) _ _
        generalize (w1.alloc (.cells #[.string s] 58)).drew = w2 at *
        repeat still_step
        refine wpStill_nil ?_
        go_wp2_with (refine wp_update _ rfl _ _ _ 53 rfl 22 58 law32 Try.underlying53 _ w.heap.size cq _ rfl HM3.out hcq _ (.int .u32 x) rfl (key32 x x0 x1) trivial (.agg #[.string s]) rfl ?_; intro w3 hm3 ht3; go_must (rw [own_put, E.out.2, HN.out, if_neg (by decide)] at hm3; go_frame))
        have hk3 := KB.turned ht3
        have hg3 : w2.grownBy w3 (some w.heap.size) := ⟨hk3.1, hk3.2.1, hk3.2.2.1, hk3.2.2.2.1, fun j hj hne => hk3.2.2.2.2 j hj (fun e => hne (by rw [e]))⟩
        have hr3 := HR3.out.kept hg3 (fun e => by have := Option.some.inj e; omega) (fun e => by have := Option.some.inj e; omega)
        have hz3 := HB3.out.size
        go_roundw
        case rel =>
          exact ⟨_, left1, _, cq + 1, ⟨⟨hr3, by have h1 := H.out.cn; have h2 := HLT.out; omega, hm3, (hg3.block _ (blk_lt HP3.out) (by simp)).trans HP3.out, fun a => by
            unfold pput
            by_cases e : a = x
            · rw [if_pos e, e, WideAt.sameKey_self (show WideAt.IsKeyLit (.int .u32 x) from trivial), HX.out]; simp
            · have hf : (Lit.int IntKind.u32 a).sameKey (.int .u32 x) = false := by
                cases hq : (Lit.int IntKind.u32 a).sameKey (.int .u32 x) with
                | false => rfl
                | true => exact absurd (by simpa using WideAt.sameKey_eq hq) e
              rw [if_neg e, hf, H.out.eq]; simp, HB3.out.grown hg3 hz3 (fun j hj => by cases hj; exact Nat.le_refl _), fun l hl => H.out.hs l (by simp only [Bool.and_eq_true] at hl; exact hl.1)⟩⟩⟩
        case measure => rw [hr3.left_eq, HRG.out.left_eq]; exact HLT.out
end Go.Proofs.YtjpnebhhpogebaaHPool
