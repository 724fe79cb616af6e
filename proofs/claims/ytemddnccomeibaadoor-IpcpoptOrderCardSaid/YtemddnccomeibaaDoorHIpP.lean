/- ipcpopt: the order of options makes no difference; odd ones make none: plain. -/
import Derived.Test.YtemddnccomeibaaDoorHIpK
namespace Go.Proofs.YtemddnccomeibaaDoorHIp
open Go.RowKit Go.Proofs.YtemddnccomeibaaDoorW.PrintWords Go.Proofs.YtemddnccomeibaaDoorHW Go.Proofs.YtemddnccomeibaaDoorHG Go.Proofs.YtemddnccomeibaaDoor.PG10
set_option linter.unusedVariables false
set_option linter.unusedSimpArgs false
/-- Two results that say the same, of as many odd ones. -/
def Like (a b : Ip × List Op × Int) : Prop := a.1 = b.1 ∧ a.2.1.length = b.2.1.length ∧ a.2.2 = b.2.2
theorem Like.rfl {a : Ip × List Op × Int} : Like a a := ⟨_root_.rfl, _root_.rfl, _root_.rfl⟩
theorem Like.trans {a b c : Ip × List Op × Int} (h : Like a b) (g : Like b c) : Like a c := ⟨h.1.trans g.1, h.2.1.trans g.2.1, h.2.2.trans g.2.2⟩
theorem like_odd : ∀ (l : List Op) (x : Ip) (a b : List Op), a.length = b.length → Like (getF x a l) (getF x b l)
  | [], x, a, b, h => ⟨rfl, h, rfl⟩
  | o :: r, x, a, b, h => by
    rw [getF, getF]
    split
    · split
      · exact Like.rfl
      · exact like_odd r _ a b h
    · exact like_odd r x _ _ (by simp [h])
theorem set_swap (x : Ip) (s t u v : Int) (hs : s = 3 ∨ s = 129 ∨ s = 131) (ht : t = 3 ∨ t = 129 ∨ t = 131) (hn : s ≠ t) : setI (setI x s u) t v = setI (setI x t v) s u := by
  rcases hs with rfl | rfl | rfl <;> rcases ht with rfl | rfl | rfl <;> simp_all [setI]
theorem like_swap (a b : Op) (r : List Op) (x : Ip) (odd : List Op) : Like (getF x odd (a :: b :: r)) (getF x odd (b :: a :: r)) := by
  by_cases ca : good a
  · by_cases cb : good b
    · by_cases ha : hasI x a.f0 = true
      · by_cases hb : hasI x b.f0 = true
        · simp only [getF, if_pos ca, if_pos cb, if_pos ha, if_pos hb]; exact Like.rfl
        · have h1 : hasI (setI x b.f0 (value4 b.f1)) a.f0 = true := by rw [had_set _ _ _ _ ca.1 cb.1, ha]; rfl
          simp only [getF, if_pos ca, if_pos cb, if_pos ha, if_neg hb, if_pos h1]; exact Like.rfl
      · by_cases hb : hasI x b.f0 = true
        · have h1 : hasI (setI x a.f0 (value4 a.f1)) b.f0 = true := by rw [had_set _ _ _ _ cb.1 ca.1, hb]; rfl
          simp only [getF, if_pos ca, if_pos cb, if_neg ha, if_pos hb, if_pos h1]; exact Like.rfl
        · by_cases e : a.f0 = b.f0
          · have h1 : hasI (setI x a.f0 (value4 a.f1)) b.f0 = true := by rw [had_set _ _ _ _ cb.1 ca.1, decide_eq_true e]; simp
            have h2 : hasI (setI x b.f0 (value4 b.f1)) a.f0 = true := by rw [had_set _ _ _ _ ca.1 cb.1, decide_eq_true e.symm]; simp
            simp only [getF, if_pos ca, if_pos cb, if_neg ha, if_neg hb, if_pos h1, if_pos h2]; exact Like.rfl
          · have h1 : ¬ hasI (setI x a.f0 (value4 a.f1)) b.f0 = true := by rw [had_set _ _ _ _ cb.1 ca.1, decide_eq_false e]; simpa using hb
            have h2 : ¬ hasI (setI x b.f0 (value4 b.f1)) a.f0 = true := by rw [had_set _ _ _ _ ca.1 cb.1, decide_eq_false (fun h => e h.symm)]; simpa using ha
            simp only [getF, if_pos ca, if_pos cb, if_neg ha, if_neg hb, if_neg h1, if_neg h2]
            rw [set_swap x _ _ _ _ ca.1 cb.1 e]; exact Like.rfl
    · by_cases ha : hasI x a.f0 = true
      · simp only [getF, if_pos ca, if_neg cb, if_pos ha]; exact Like.rfl
      · simp only [getF, if_pos ca, if_neg cb, if_neg ha]; exact Like.rfl
  · by_cases cb : good b
    · by_cases hb : hasI x b.f0 = true
      · simp only [getF, if_neg ca, if_pos cb, if_pos hb]; exact Like.rfl
      · simp only [getF, if_neg ca, if_pos cb, if_neg hb]; exact Like.rfl
    · simp only [getF, if_neg ca, if_neg cb]
      exact like_odd r x _ _ (by simp)
theorem like_perm {l m : List Op} (h : l.Perm m) : ∀ (x : Ip) (odd : List Op), Like (getF x odd l) (getF x odd m) := by
  induction h with
  | nil => exact fun x odd => Like.rfl
  | cons o h ih =>
    intro x odd
    rw [getF, getF]
    split
    · split
      · exact Like.rfl
      · exact ih _ _
    · exact ih _ _
  | swap a b r => exact fun x odd => like_swap b a r x odd
  | trans h g ih jh => exact fun x odd => (ih x odd).trans (jh x odd)
/-- One odd option more. -/
theorem more_odd : ∀ (l : List Op) (x : Ip) (a b : List Op), b.length = a.length + 1 → (getF x a l).1 = (getF x b l).1 ∧ (getF x a l).2.2 = (getF x b l).2.2 ∧ ((getF x a l).2.2 = 0 → (getF x b l).2.1.length = (getF x a l).2.1.length + 1)
  | [], x, a, b, h => ⟨rfl, rfl, fun _ => h⟩
  | o :: r, x, a, b, h => by
    rw [getF, getF]
    split
    · split
      · exact ⟨rfl, rfl, fun h => by simp at h⟩
      · exact more_odd r _ a b h
    · exact more_odd r x _ _ (by simp [h])
theorem odd_more (l : List Op) (o : Op) (n : Nat) (ho : ¬ good o) : (getK l).1 = (getK (l.take n ++ o :: l.drop n)).1 ∧ (getK l).2.2 = (getK (l.take n ++ o :: l.drop n)).2.2 ∧
    ((getK l).2.2 = 0 → (getK (l.take n ++ o :: l.drop n)).2.1.length = (getK l).2.1.length + 1) := by
  have hp : (l.take n ++ o :: l.drop n).Perm (o :: l) := by
    have := @List.perm_middle _ o (l.take n) (l.drop n)
    rwa [List.take_append_drop] at this
  obtain ⟨h1, h2, h3⟩ := like_perm hp zIp []
  have e : getF zIp [] (o :: l) = getF zIp [o] l := by rw [getF, if_neg ho]; rfl
  rw [e] at h1 h2 h3
  obtain ⟨g1, g2, g3⟩ := more_odd l zIp [] [o] rfl
  unfold getK
  rw [h1, h2, h3]
  exact ⟨g1, g2, g3⟩
/-- Two of a row change places. -/
def swapL (l : List Op) (a b : Nat) (p q : Op) : List Op := (l.set a q).set b p
theorem swap_perm : ∀ (l : List Op) (a b : Nat) (p q : Op), l[a]? = some p → l[b]? = some q → (swapL l a b p q).Perm l := by
  have take_set : ∀ (l : List Op) (a : Nat) (p q : Op), l[a]? = some p → (q :: l).Perm (p :: l.set a q) := by
    intro l
    induction l with
    | nil => intro a p q h; simp at h
    | cons y r ih =>
      intro a p q h
      cases a with
      | zero => obtain rfl : y = p := by simpa using h
                exact List.Perm.swap _ _ _
      | succ a =>
        have h' : r[a]? = some p := by simpa using h
        show (q :: y :: r).Perm (p :: y :: r.set a q)
        exact (List.Perm.swap y q r).trans (((ih a p q h').cons y).trans (List.Perm.swap p y _))
  intro l a b p q ha hb
  have h1 := take_set l a p q ha
  have hb' : (l.set a q)[b]? = some q := by
    by_cases e : a = b
    · subst e
      obtain ⟨hl, _⟩ := List.getElem?_eq_some_iff.1 ha
      rw [List.getElem?_set_self hl]
    · rw [List.getElem?_set_ne e]; exact hb
  have h2 := take_set (l.set a q) b q p hb'
  exact (List.Perm.cons_inv (h1.trans h2)).symm
theorem swap_like (l : List Op) (a b : Nat) (p q : Op) (ha : l[a]? = some p) (hb : l[b]? = some q) : Like (getK l) (getK (swapL l a b p q)) := like_perm (swap_perm l a b p q ha hb).symm zIp []
end Go.Proofs.YtemddnccomeibaaDoorHIp
