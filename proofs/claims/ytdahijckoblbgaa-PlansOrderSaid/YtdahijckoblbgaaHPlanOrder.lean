/- PlansOrder: a book hangs on which plans it has alone: the plain law. -/
import Derived.Test.YtdahijckoblbgaaHPlanFit
namespace Go.Proofs.YtdahijckoblbgaaHVP
open Go.RowKit Go.Maps Go.Sort Go.Shelf Go.Lib Go.Proofs.YtdahijckoblbgaaW.PrintWords Go.Proofs.YtdahijckoblbgaaHW Go.Proofs.YtdahijckoblbgaaHG Go.Proofs.Ytdahijckoblbgaa.PG27 Go.Proofs.YtdahijckoblbgaaHT
set_option linter.unusedVariables false
set_option linter.unusedSimpArgs false
theorem newAll_app (l : List El) (x : El) : newAll (l ++ [x]) = new1 (newAll l) x := by unfold newAll; rw [List.foldl_append]; rfl
/-- What a row that New takes is like, and what it makes of it. -/
structure Took (l ls : List El) : Prop where
  mem : ∀ x, x ∈ ls ↔ x ∈ l
  len : ls.length = l.length
  apart : l.Pairwise (fun a b => nm a ≠ nm b)
  ok : ∀ x ∈ l, okB x = true
  up : Up nm ls
  le : l.length ≤ 32
theorem took (l : List El) : ∀ ls, newAll l = (0, ls) → Took l ls := by
  refine snoc_ind (P := fun l => ∀ ls, newAll l = (0, ls) → Took l ls) ?_ ?_ l
  · intro ls h
    have e : ls = [] := by have := congrArg Prod.snd h; exact this.symm
    subst e
    exact ⟨fun x => Iff.rfl, rfl, List.Pairwise.nil, fun x hx => by simp at hx, Up.nil, by decide⟩
  · intro l x ih ls h
    rw [newAll_app] at h
    obtain ⟨⟨c, ms⟩, hms⟩ : ∃ p, newAll l = p := ⟨_, rfl⟩
    rw [hms] at h
    unfold new1 at h
    by_cases h0 : c = 0
    · subst h0
      rw [if_pos rfl] at h
      have h1 := congrArg Prod.fst h
      have h2 := congrArg Prod.snd h
      dsimp only at h1 h2
      have t := ih ms hms
      obtain ⟨k1, k2, k3⟩ := addK_zero h1
      have e : ls = ins nm ms x := by rw [← h2]; unfold addL; rw [if_pos h1]
      subst e
      refine ⟨fun y => ?_, ?_, ?_, ?_, t.up.ins k2, ?_⟩
      · rw [mem_ins, List.mem_append, t.mem]; simp [or_comm]
      · rw [ins_len, t.len]; simp
      · refine List.pairwise_append.mpr ⟨t.apart, by simp, fun a ha b hb => ?_⟩
        simp at hb; subst hb
        exact get_none k2 a ((t.mem a).mpr ha)
      · intro y hy
        rcases List.mem_append.mp hy with hy | hy
        · exact t.ok y hy
        · simp at hy; subst hy; exact k1
      · have := t.len; simp; omega
    · rw [if_neg h0] at h
      exact absurd (congrArg Prod.fst h) h0
theorem takes (l : List El) : l.Pairwise (fun a b => nm a ≠ nm b) → (∀ x ∈ l, okB x = true) → l.length ≤ 32 → ∃ ls, newAll l = (0, ls) := by
  refine snoc_ind (P := fun l => l.Pairwise (fun a b => nm a ≠ nm b) → (∀ x ∈ l, okB x = true) → l.length ≤ 32 → ∃ ls, newAll l = (0, ls)) ?_ ?_ l
  · intro _ _ _; exact ⟨[], rfl⟩
  · intro l x ih ha ho hl
    obtain ⟨a1, _, a3⟩ := List.pairwise_append.mp ha
    obtain ⟨ls, h⟩ := ih a1 (fun y hy => ho y (List.mem_append_left _ hy)) (by simp at hl; omega)
    have t := took l ls h
    have h0 : addK ls x = 0 := by
      unfold addK
      have hn : get nm ls x.f0 = none := by
        cases hg : get nm ls x.f0 with
        | none => rfl
        | some y =>
          obtain ⟨q1, q2⟩ := get_some hg
          exact absurd q2 (a3 y ((t.mem y).mp q1) x (by simp))
      rw [if_neg (by rw [ho x (by simp)]; decide), if_neg (by rw [hn]; decide), if_neg (by have := t.len; simp at hl; omega)]
    exact ⟨addL ls x, by rw [newAll_app, h]; unfold new1; rw [if_pos rfl]; exact Prod.ext h0 rfl⟩
/-- The same plans, in whatever order, make the same row. -/
theorem order {l m ls : List El} (h : newAll l = (0, ls)) (hp : m.Perm l) : newAll m = (0, ls) := by
  have t := took l ls h
  obtain ⟨ms, hm⟩ := takes m ((hp.pairwise_iff (fun {a b} q => q.symm)).mpr t.apart) (fun x hx => t.ok x (hp.mem_iff.mp hx)) (by rw [hp.length_eq]; exact t.le)
  have u := took m ms hm
  have e : ms = ls := Up.ext u.up t.up (fun x => by rw [u.mem, t.mem, hp.mem_iff])
  rw [hm, e]
def jx (l : List El) (by_ : Int) (k : Nat) : Int := ((l.length : Int) - 1 - k + by_) % (l.length : Int)
def backL (l : List El) (by_ : Int) : Nat → List El
  | 0 => []
  | k + 1 => backL l by_ k ++ [rd_T30 l (jx l by_ k)]
theorem backL_eq (l : List El) (a : Int) (h0 : 0 ≤ a) (hn : 0 < l.length) : ∀ k, k ≤ l.length → backL l a k = ((l.drop (a % l.length).toNat ++ l.take (a % l.length).toNat).reverse).take k
  | 0, _ => rfl
  | k + 1, hk => by
    have ih := backL_eq l a h0 hn k (by omega)
    have m0 := Int.emod_nonneg a (show (l.length : Int) ≠ 0 by omega)
    have m1 := Int.emod_lt_of_pos a (show (0 : Int) < l.length by omega)
    obtain ⟨r, hr⟩ : ∃ r : Nat, (a % l.length) = r := ⟨(a % l.length).toNat, by omega⟩
    rw [hr] at ih ⊢
    rw [Int.toNat_natCast] at ih ⊢
    have hr' : r < l.length := by omega
    have hlen : (l.drop r ++ l.take r).length = l.length := by rw [List.length_append, List.length_drop, List.length_take]; omega
    have hk' : k < (l.drop r ++ l.take r).reverse.length := by rw [List.length_reverse, hlen]; omega
    rw [backL, ih, List.take_succ_eq_append_getElem hk']
    congr 1
    have hj : jx l a k = (((l.length - 1 - k + r) % l.length : Nat) : Int) := by
      unfold jx
      have e : ((l.length : Int) - 1 - k + a) % l.length = ((l.length : Int) - 1 - k + (r : Int)) % l.length := by rw [← hr, Int.add_emod_emod]
      rw [e, show ((l.length : Int) - 1 - k + (r : Int)) = ((l.length - 1 - k + r : Nat) : Int) by omega]
      exact (Int.natCast_emod _ _).symm
    rw [hj]
    congr 1
    unfold rd_T30
    rw [Int.toNat_natCast, List.getElem_reverse]
    have hm : (l.length - 1 - k + r) % l.length < l.length := Nat.mod_lt _ hn
    rw [List.getD_eq_getElem?_getD, List.getElem?_eq_getElem hm, Option.getD_some]
    rw [List.getElem_append]
    split
    · rename_i h
      rw [List.length_drop] at h
      rw [List.getElem_drop]
      congr 1
      rw [hlen, Nat.mod_eq_of_lt (by rw [hlen] at h; omega)]; omega
    · rename_i h
      rw [List.length_drop] at h
      rw [List.getElem_take]
      congr 1
      rw [hlen] at h ⊢
      rw [List.length_drop, Nat.mod_eq_sub_mod (by omega), Nat.mod_eq_of_lt (by omega)]; omega
theorem backL_perm (l : List El) (a : Int) (h0 : 0 ≤ a) : (backL l a l.length).Perm l := by
  rcases Nat.eq_zero_or_pos l.length with h | h
  · have e : l = [] := List.eq_nil_of_length_eq_zero h
    subst e; exact List.Perm.refl _
  · rw [backL_eq l a h0 h l.length (Nat.le_refl _)]
    have e : (l.drop (a % l.length).toNat ++ l.take (a % l.length).toNat).reverse.length = l.length := by
      rw [List.length_reverse, List.length_append, List.length_drop, List.length_take]; omega
    rw [List.take_of_length_le (by omega)]
    refine (List.reverse_perm _).trans ((List.perm_append_comm).trans ?_)
    rw [List.take_append_drop]
end Go.Proofs.YtdahijckoblbgaaHVP
