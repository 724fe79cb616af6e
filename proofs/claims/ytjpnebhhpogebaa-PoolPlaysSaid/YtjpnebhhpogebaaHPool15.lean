/- The document's answer to the pool: one is given back. -/
import Derived.Test.YtjpnebhhpogebaaHPool14
import Derived.Deep.RegionLaw
namespace Go.Proofs.YtjpnebhhpogebaaHPool
open Go.RowKit Go.Proofs.YtjpnebhhpogebaaW.PrintWords Go.Proofs.YtjpnebhhpogebaaHW Go.Proofs.YtjpnebhhpogebaaHG
set_option linter.unusedVariables false
set_option linter.unusedSimpArgs false
theorem gave_end {B g j cap2 : Nat} {base n : Int} {ls ls' : List (Int × ByteArray)} {w w5 : World} {v : Value} {ad : Option Addr} (hj : j < ls.length) (hd : ls.take j ++ ls.drop (j + 1) = ls') (hB : B ≤ w.heap.size) (hb : Below w.heap.size w w5) (zg : g < w.heap.size)
    (h1 : w5.heap[g]? = some (.cells #[.int .u32 base, .int .i64 n, v] 50 (0, 0))) (own : w5.ownsRow w.heap.size 62 2 (.slice ad (j + (ls.length - (j + 1))) cap2) (j + (ls.length - (j + 1))) (leaseCells (ls.take j) ++ leaseCells (ls.drop (j + 1)))) :
    RefAt B (w5.setCell ⟨g, 2, none⟩ (.slice ad (j + (ls.length - (j + 1))) cap2)) g base n ls' ∧ KB g w (w5.setCell ⟨g, 2, none⟩ (.slice ad (j + (ls.length - (j + 1))) cap2)) := by
  have hne : (Value.slice ad (j + (ls.length - (j + 1))) cap2).ownBlock ≠ some g := fun e => by have := (own.lt g e).1; omega
  have el : ls'.length = j + (ls.length - (j + 1)) := by rw [← hd]; simp only [List.length_append, List.length_take, List.length_drop]; omega
  have ec : leaseCells ls' = leaseCells (ls.take j) ++ leaseCells (ls.drop (j + 1)) := by rw [← hd, leaseCells_app]
  refine ⟨⟨_, (blk_set h1 2 _).trans rfl, ?_, hne⟩, KB_set hb _⟩
  rw [el, ec]
  exact own_setCell (own_less own hB) (fun e => hne e.symm) _
set_option maxRecDepth 100000 in
set_option maxHeartbeats 2000000 in
theorem RefGiveYes (B g : Nat) (base n a : Int) (s : ByteArray) (M : Int → Option ByteArray) (c : Nat) (w : World) (h : RefAt B w g base n (leases base M n.toNat)) (hv : Valid base n M c) (hM : M a = some s) (hB : B ≤ w.heap.size) :
    Calls Try.prog 19 #[.pointer (some ⟨g, 0, none⟩), .int .u32 a] w fun e w' => e = .returned (.int .i64 0) ∧ RefAt B w' g base n (leases base (pdel M a) n.toNat) ∧ KB g w w' := by
  have hl := leases_le hv
  obtain ⟨j, hi, hj⟩ : ∃ j : Nat, atIx (leases base M n.toNat) a = (j : Int) ∧ (leases base M n.toNat)[j]? = some (a, s) := by
    rcases atIx_look hv a with ⟨hM', _⟩ | ⟨s', j, hM', hi, hq⟩
    · rw [hM'] at hM; exact absurd hM (by simp)
    · rw [hM] at hM'; cases hM'; exact ⟨j, hi, hq⟩
  have hdel := del_leases (base := base) (n := n) (hv.dom a (by rw [hM]; rfl)).1 (hv.dom a (by rw [hM]; rfl)).2 hM hj
  have HA := Aside0.mk (RefAtOf B g base n a _ w h (by omega))
  rw [hi] at HA
  have hjl := (List.getElem?_eq_some_iff.1 hj).1
  have HDEL := Aside0.mk hdel
  generalize leases base M n.toNat = ls at *
  obtain ⟨v, h1, h2, h3⟩ := h
  obtain ⟨gl, cap, rfl, _, _⟩ := World.ownsRow.form h2 (by omega)
  have k2 := blk_cell h1 2
  have zg := blk_lt h1
  have fz := blk_frozen h1 2
  simp only [List.getElem?_toArray, List.getElem?_cons_zero, List.getElem?_cons_succ] at k2
  have H1 := Aside0.mk h1
  have H2 := Aside0.mk h2
  have j0 : ¬ (j : Int) < 0 := by omega
  have j1 : IntKind.i64.wrap ((j : Int) + 1) = j + 1 := by rw [IntKind.wrap_i64]; omega
  have j2 : (j : Int) + 1 ≤ (ls.length : Int) := by omega
  have hcap : (ls.length : Int) ≤ (cap : Int) := by
    rcases h2.2 with ⟨hv, _⟩ | ⟨_, _, _, hv, _, _, hc, _⟩
    · exact absurd hv (by simp)
    · cases hv; omega
  have j3 : (j : Int) ≤ (cap : Int) := by omega
  have j5 : (j : Int) + 1 ≤ (cap : Int) := by omega
  have j7 : (0 : Int) ≤ (j : Int) + 1 := by omega
  clear hv hM hi hj hdel h1 h2 h3
  by_cases hcap : j + 1 = cap
  · subst hcap
    have j8 : (j : Int) ≤ (j : Int) + 1 := by omega
    go_enter Try.func19, Try.ntmps19
    go_wp2_with (go_at_call 27; refine HA.out.mono ?_; rintro e w1 ⟨rfl, rfl⟩)
    go_region_law (first | (refine step_appendC _ rfl (.const (.slice none 0 0)) (.tmp 17) 34 rfl w1.heap.size 62 (.agg #[.int .u32 0, .string ⟨#[]⟩]) 24 Try.underlying34 infoLease rfl (.slice none 0 0) 0 [] rfl (own_nil _ _ _ _) (.slice (some ⟨gl, 0, none⟩) j (j + 1)) j (leaseCells (ls.take j)) rfl (src_take (show (World.drew w1).ownsRow B 62 2 _ _ _ from H2.out) j _ (by omega)) (cells_one _) (by unfold maxLen; omega) (by omega) (Nat.le_refl _) ?_; intro v1 w3 own1 gr1; have hb3 := (Below.refl w1.heap.size (World.drew w1)).grown gr1 (Nat.le_refl _) (fun j hj => by simp [Value.ownBlock] at hj); rw [Nat.zero_add, List.nil_append] at own1; have OWN1 := Aside0.mk own1; have HB3 := Aside0.mk hb3; have H13 := Aside0.mk ((hb3.block g (blk_lt H1.out)).trans H1.out); clear own1 gr1 hb3; have k3 := blk_cell H13.out 2; have zg3 := blk_lt H13.out; have fz3 := blk_frozen H13.out 2; simp only [List.getElem?_toArray, List.getElem?_cons_zero, List.getElem?_cons_succ] at k3) | (refine step_appendC _ rfl (.tmp 18) (.tmp 25) 34 rfl w1.heap.size 62 (.agg #[.int .u32 0, .string ⟨#[]⟩]) 24 Try.underlying34 infoLease rfl v1 j (leaseCells (ls.take j)) rfl OWN1.out (.slice (some ⟨gl, 0, none⟩) (ls.length - (j + 1)) 0) (ls.length - (j + 1)) (leaseCells (ls.drop (j + 1))) rfl (by rw [show ls.length - (j + 1) = 0 by omega]; exact src_end _ gl _ (j + 1) ls (by omega)) (cells_one _) (by unfold maxLen; omega) (by omega) HB3.out.size ?_; intro v2 w4 own2 gr2; obtain ⟨ad2, cap2, rfl⟩ := own_slice own2; have hb4 := HB3.out.grown gr2 HB3.out.size (fun j hj => (OWN1.out.lt j hj).1); have OWN2 := Aside0.mk own2; have HB4 := Aside0.mk hb4; have H14 := Aside0.mk ((hb4.block g (blk_lt H1.out)).trans H1.out); clear own2 gr2 hb4; have k4 := blk_cell H14.out 2; have zg4 := blk_lt H14.out; have fz4 := blk_frozen H14.out 2; simp only [List.getElem?_toArray, List.getElem?_cons_zero, List.getElem?_cons_succ] at k4))
    all_goals (go_wp2; go_ret; exact ⟨rfl, gave_end hjl HDEL.out hB ⟨HB4.out.os, HB4.out.tape, HB4.out.output, HB4.out.size, HB4.out.block⟩ (blk_lt H1.out) H14.out OWN2.out⟩)
  · have j4 : ¬ cap = j + 1 := fun e => hcap e.symm
    have j6 : ¬ (cap : Int) = (j : Int) + 1 := by omega
    go_enter Try.func19, Try.ntmps19
    go_wp2_with (go_at_call 27; refine HA.out.mono ?_; rintro e w1 ⟨rfl, rfl⟩)
    go_region_law (first | (refine step_appendC _ rfl (.const (.slice none 0 0)) (.tmp 17) 34 rfl w1.heap.size 62 (.agg #[.int .u32 0, .string ⟨#[]⟩]) 24 Try.underlying34 infoLease rfl (.slice none 0 0) 0 [] rfl (own_nil _ _ _ _) (.slice (some ⟨gl, 0, none⟩) j cap) j (leaseCells (ls.take j)) rfl (src_take (show (World.drew w1).ownsRow B 62 2 _ _ _ from H2.out) j _ (by omega)) (cells_one _) (by unfold maxLen; omega) (by omega) (Nat.le_refl _) ?_; intro v1 w3 own1 gr1; have hb3 := (Below.refl w1.heap.size (World.drew w1)).grown gr1 (Nat.le_refl _) (fun j hj => by simp [Value.ownBlock] at hj); rw [Nat.zero_add, List.nil_append] at own1; have OWN1 := Aside0.mk own1; have HB3 := Aside0.mk hb3; have H13 := Aside0.mk ((hb3.block g (blk_lt H1.out)).trans H1.out); clear own1 gr1 hb3; have k3 := blk_cell H13.out 2; have zg3 := blk_lt H13.out; have fz3 := blk_frozen H13.out 2; simp only [List.getElem?_toArray, List.getElem?_cons_zero, List.getElem?_cons_succ] at k3) | (refine step_appendC _ rfl (.tmp 18) (.tmp 25) 34 rfl w1.heap.size 62 (.agg #[.int .u32 0, .string ⟨#[]⟩]) 24 Try.underlying34 infoLease rfl v1 j (leaseCells (ls.take j)) rfl OWN1.out (.slice (some ⟨gl, (j + 1) * 2, none⟩) (ls.length - (j + 1)) _) (ls.length - (j + 1)) (leaseCells (ls.drop (j + 1))) rfl (src_drop (pw_own_below (show (World.drew w1).ownsRow B 62 2 _ _ _ from H2.out) HB3.out) (j + 1) _ (by omega)) (cells_one _) (by unfold maxLen; omega) (by omega) HB3.out.size ?_; intro v2 w4 own2 gr2; obtain ⟨ad2, cap2, rfl⟩ := own_slice own2; have hb4 := HB3.out.grown gr2 HB3.out.size (fun j hj => (OWN1.out.lt j hj).1); have OWN2 := Aside0.mk own2; have HB4 := Aside0.mk hb4; have H14 := Aside0.mk ((hb4.block g (blk_lt H1.out)).trans H1.out); clear own2 gr2 hb4; have k4 := blk_cell H14.out 2; have zg4 := blk_lt H14.out; have fz4 := blk_frozen H14.out 2; simp only [List.getElem?_toArray, List.getElem?_cons_zero, List.getElem?_cons_succ] at k4))
    all_goals (go_wp2; go_ret; exact ⟨rfl, gave_end hjl HDEL.out hB ⟨HB4.out.os, HB4.out.tape, HB4.out.output, HB4.out.size, HB4.out.block⟩ (blk_lt H1.out) H14.out OWN2.out⟩)
end Go.Proofs.YtjpnebhhpogebaaHPool
