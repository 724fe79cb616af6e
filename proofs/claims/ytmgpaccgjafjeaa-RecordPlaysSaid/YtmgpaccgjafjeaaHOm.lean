-- merged by merge.py: HO WalkRecordPlays
import Derived.Test.YtmgpaccgjafjeaaHW
import Derived.Deep.Slices
import Derived.SizedLaws
import Derived.ChangeArms
import Derived.DataReads
import Derived.Test.YtmgpaccgjafjeaaPG28x0
import Derived.Test.YtmgpaccgjafjeaaHRecPl
namespace Go.Proofs.YtmgpaccgjafjeaaHO
open Go.RowKit Go.Proofs.YtmgpaccgjafjeaaW.PrintWords Go.Proofs.YtmgpaccgjafjeaaHW Go.Deep
set_option linter.unusedVariables false
/-- A reading at type t is a value of kind d, of which I is known. -/
def Opens (P : Program) (t : TypeId) {α : Type} (d : Kd α) (I : α → Prop) : Prop :=
  P.cellsOf t = d.sz ∧ ∀ {H : Type} (enc : TypeId × Value → H) (w : World) (fuel : Nat) (cs : List Value) (x : DataW H × List MemPlace),
    DataW.trod enc P w 0 (fun _ => true) true fuel t cs = some x → (∀ n ∈ x.1.weights P t, n ≤ reachBytes) → ∃ a, d.K w a cs ∧ I a
theorem opens_int {P : Program} {t : TypeId} {k : IntKind} (hu : P.underlying t = some (.int k)) (hc : P.cellsOf t = 1) : Opens P t (Kd.int k) (fun n => (Lit.int k n).wf = true) :=
  ⟨hc, fun enc w fuel cs x h _ => by
    obtain ⟨n, rfl, rfl, hw⟩ := DataW.trod_int hu h
    exact ⟨n, rfl, hw⟩⟩
theorem opens_bool {P : Program} {t : TypeId} (hu : P.underlying t = some .bool) (hc : P.cellsOf t = 1) : Opens P t Kd.bool (fun _ => True) :=
  ⟨hc, fun enc w fuel cs x h _ => by
    obtain ⟨n, rfl, rfl⟩ := DataW.trod_bool hu h
    exact ⟨n, rfl, trivial⟩⟩
theorem opens_string {P : Program} {t : TypeId} (hu : P.underlying t = some .string) (hc : P.cellsOf t = 1) : Opens P t Kd.string (fun s => s.size ≤ 140737488351232) :=
  ⟨hc, fun enc w fuel cs x h hw => by
    obtain ⟨s, rfl, rfl, hs⟩ := DataW.trod_string hu h
    refine ⟨s, rfl, ?_⟩
    have := hw s.data.toList.length (by simp [DataW.weights])
    rw [Array.length_toList] at this
    exact this⟩
theorem weightsAll_mem {H : Type} {P : Program} {e : TypeId} : ∀ {ds : List (DataW H)} {d : DataW H} {n : Nat}, d ∈ ds → n ∈ d.weights P e → n ∈ DataW.weightsAll P e ds
  | [], _, _, h, _ => absurd h (by simp)
  | d0 :: r, d, n, h, hn => by
    simp only [DataW.weightsAll, List.mem_append]
    rcases List.mem_cons.1 h with rfl | h
    · exact .inl hn
    · exact .inr (weightsAll_mem h hn)
theorem cells_get {w : World} {a : Addr} {n : Nat} {cs : List Value} (h : w.cells? 0 a n = some cs) : cs.length = n ∧ ∀ i u, cs[i]? = some u → w.cell? (a.add i) = some u := by
  unfold World.cells? at h
  rw [if_pos (Nat.zero_le _)] at h
  have hl : cs.length = n := by simpa using mapM_some_length h
  refine ⟨hl, fun i u hi => ?_⟩
  have hin : i < n := by rw [← hl]; exact (List.getElem?_eq_some_iff.1 hi).1
  have := mapM_some_get h i i (List.getElem?_range hin)
  rw [this, hi]
theorem opens_slice {P : Program} {t e : TypeId} {α : Type} {d : Kd α} {I : α → Prop} (hu : P.underlying t = some (.slice e)) (hc : P.cellsOf t = 1) (he : Opens P e d I) :
    Opens P t (Kd.slice e d) (fun xs => xs.length ≤ maxLen ∧ xs.length * P.bytesOf e ≤ 140737488351232 ∧ ∀ x ∈ xs, I x) :=
  ⟨hc, fun {H} enc w fuel cs x h hw => by
    rcases open_slice hu h with ⟨rfl, rfl⟩ | ⟨a, len, cap, m, n, D, Pl, rfl, _, hl, hm, hmc, rfl, hel⟩
    · exact ⟨[], ⟨none, 0, rfl, Nat.le_refl _, rfl, by simp, fun h => absurd h (by simp)⟩, by simp, by simp, by simp⟩
    · simp only [if_true] at hmc
      subst hmc
      have key : ∀ i, i < len → ∃ v : α, I v ∧ ∃ c, c.length = d.sz ∧ d.K w v c ∧ ∀ j u, c[j]? = some u → w.cell? (a.add (i * d.sz + j)) = some u := by
        intro i hi
        obtain ⟨cs', hc1, hc2⟩ := hel i (by omega)
        obtain ⟨v, hv, hI⟩ := he.2 enc w n cs' (D i, Pl i) hc2 (fun k hk => hw k (by
          simp only [DataW.weights, hu, List.mem_cons, List.mem_append]
          exact .inr (.inl (weightsAll_mem (List.mem_map.2 ⟨i, List.mem_range.2 hi, rfl⟩) hk))))
        obtain ⟨hlen, hcell⟩ := cells_get hc1
        rw [he.1] at hlen hcell
        exact ⟨v, hI, cs', hlen, hv, fun j u hj => by rw [← Deep.add_add]; exact hcell j u hj⟩
      have ch : ∃ xs : List α, xs.length = len ∧ ∀ i v, xs[i]? = some v → I v ∧ ∃ c, c.length = d.sz ∧ d.K w v c ∧ ∀ j u, c[j]? = some u → w.cell? (a.add (i * d.sz + j)) = some u := by
        have : ∀ k, k ≤ len → ∃ xs : List α, xs.length = k ∧ ∀ i v, xs[i]? = some v → I v ∧ ∃ c, c.length = d.sz ∧ d.K w v c ∧ ∀ j u, c[j]? = some u → w.cell? (a.add (i * d.sz + j)) = some u := by
          intro k
          induction k with
          | zero => exact fun _ => ⟨[], rfl, fun i v h => by simp at h⟩
          | succ k ih =>
            intro hk
            obtain ⟨xs, hx, hxs⟩ := ih (by omega)
            obtain ⟨v, hv⟩ := key k (by omega)
            refine ⟨xs ++ [v], by simp [hx], fun i u hi => ?_⟩
            by_cases hik : i < xs.length
            · rw [List.getElem?_append_left hik] at hi; exact hxs i u hi
            · have hi' := (List.getElem?_eq_some_iff.1 hi).1
              simp only [List.length_append, List.length_singleton] at hi'
              obtain rfl : i = k := by omega
              rw [List.getElem?_append_right (by omega), show i - xs.length = 0 by omega] at hi
              simp only [List.getElem?_cons_zero, Option.some.injEq] at hi
              subst hi
              exact hv
        exact this len (Nat.le_refl _)
      obtain ⟨xs, hx, hxs⟩ := ch
      have hmax : maxLen = 9223372036854775807 := rfl
      have hb := hw ((((List.range len).map D).length + ((List.range (m - len)).map fun j => D (len + j)).length) * P.bytesOf e) (by simp [DataW.weights, hu])
      have hb2 : xs.length * P.bytesOf e ≤ 140737488351232 := by
        refine Nat.le_trans (Nat.mul_le_mul_right _ ?_) hb
        simp; omega
      refine ⟨xs, ⟨some a, m, by rw [hx], by omega, rfl, by omega, fun _ => ⟨a, rfl, fun i v hi => (hxs i v hi).2⟩⟩, by omega, hb2, fun v hv => ?_⟩
      obtain ⟨i, hi⟩ := List.mem_iff_getElem?.1 hv
      exact (hxs i v hi).1⟩
/-- Fields in line, from 'off' on. -/
def OpensFs (P : Program) (fs : List Field) (off : Nat) {α : Type} (d : Kd α) (I : α → Prop) : Prop :=
  ∀ {H : Type} (enc : TypeId × Value → H) (w : World) (fuel : Nat) (cs : List Value) (xs : List (DataW H × List MemPlace)), off + d.sz ≤ cs.length → xs.length = fs.length →
    (∀ (i : Nat) (f : Field), fs[i]? = some f → DataW.trod enc P w 0 (fun _ => true) true fuel f.type ((cs.drop f.offset).take (P.cellsOf f.type)) = xs[i]?) →
    (∀ n ∈ DataW.weightsEach P (fs.map (·.type)) (xs.map (·.1)), n ≤ reachBytes) → ∃ a, d.K w a ((cs.drop off).take d.sz) ∧ I a
theorem opensFs_one {P : Program} {f : Field} {off : Nat} {α : Type} {d : Kd α} {I : α → Prop} (ho : f.offset = off) (h : Opens P f.type d I) : OpensFs P [f] off d I := by
  intro H enc w fuel cs xs hl hx hf hw
  have h0 := hf 0 f rfl
  obtain ⟨x, rfl⟩ : ∃ x, xs = [x] := by
    match xs, hx with
    | [x], _ => exact ⟨x, rfl⟩
  rw [h.1, ho] at h0
  exact h.2 enc w fuel _ x h0 (fun n hn => hw n (by simpa [DataW.weightsEach] using hn))
theorem opensFs_cons {P : Program} {f : Field} {fs : List Field} {off : Nat} {α β : Type} {d : Kd α} {d' : Kd β} {I : α → Prop} {I' : β → Prop} (ho : f.offset = off) (h : Opens P f.type d I) (hr : OpensFs P fs (off + d.sz) d' I') :
    OpensFs P (f :: fs) off (Kd.pair d d') (fun x => I x.1 ∧ I' x.2) := by
  intro H enc w fuel cs xs hl hx hf hw
  have h0 := hf 0 f rfl
  match xs, hx with
  | x :: r, hx =>
    rw [h.1, ho] at h0
    have hl' : off + (d.sz + d'.sz) ≤ cs.length := hl
    obtain ⟨a, ha, hI⟩ := h.2 enc w fuel _ x h0 (fun n hn => hw n (by simp only [List.map_cons, DataW.weightsEach, List.mem_append]; exact .inl hn))
    obtain ⟨b, hb, hI'⟩ := hr enc w fuel cs r (by omega) (by simpa using hx) (fun i g hg => by have := hf (i + 1) g hg; simpa using this) (fun n hn => hw n (by simp only [List.map_cons, DataW.weightsEach, List.mem_append]; exact .inr hn))
    refine ⟨(a, b), ⟨_, _, ?_, ha, hb⟩, hI, hI'⟩
    show (cs.drop off).take (d.sz + d'.sz) = _
    rw [List.take_add, List.drop_drop]
theorem opens_struct {P : Program} {t : TypeId} {fs : Array Field} {α β : Type} {d : Kd α} {I : α → Prop} (f : β → α) (g : α → β) (hfg : ∀ x, f (g x) = x) (hu : P.underlying t = some (.struct fs)) (hc : P.cellsOf t = d.sz) (h : OpensFs P fs.toList 0 d I) :
    Opens P t (Kd.iso d f) (fun x => I (f x)) :=
  ⟨hc, fun {H} enc w fuel cs x hx hw => by
    obtain ⟨xs, n, _, rfl, hlen, hxl, hfs⟩ := DataW.trod_struct hu hx
    obtain ⟨a, ha, hI⟩ := h enc w n cs xs (by omega) (by simpa using hxl) (fun i f hf => hfs i f (by simpa using hf)) (fun k hk => hw k (by simpa [DataW.weights, hu] using hk))
    refine ⟨g a, ?_, by show I (f (g a)); rw [hfg]; exact hI⟩
    show d.K w (f (g a)) cs
    rw [hfg]
    rwa [List.drop_zero, List.take_of_length_le (by omega)] at ha⟩
/-- A parameter's reading opened. -/
theorem opened {P : Program} {t : TypeId} {α : Type} {d : Kd α} {I : α → Prop} (h : Opens P t d I) {H : Type} {enc : TypeId × Value → H} {w : World} {v : Value} {x : DataW H} {ps : List MemPlace} (ht : DataW.Trod enc P w 0 (fun _ => true) true t v x ps)
    {ts : List TypeId} {ds : List (DataW H)} (hsz : (DataW.weightsEach P ts ds).all (· ≤ reachBytes) = true) {j : Nat} (hj : ts[j]? = some t) (hd : ds[j]? = some x) : ∃ a, d.K w a v.cells.toList ∧ I a := by
  obtain ⟨fuel, hf⟩ := ht
  exact h.2 enc w fuel _ (x, ps) hf (fun n hn => by
    have := List.all_eq_true.1 hsz _ (DataW.weights_mem_each hj hd n hn)
    simpa using this)
end Go.Proofs.YtmgpaccgjafjeaaHO

namespace Go.Proofs.Ytmgpaccgjafjeaa.PG28
open Go.RowKit Go.Proofs.YtmgpaccgjafjeaaW.PrintWords Go.Proofs.YtmgpaccgjafjeaaW.PrintLast Go.Proofs.YtmgpaccgjafjeaaW.PrintMore Go.Proofs.YtmgpaccgjafjeaaHW
attribute [local go_sem] max2_int min2_int max_two min_two max_three min_three max_four min_four
set_option linter.unusedVariables false
set_option linter.unusedSimpArgs false
theorem halyardlaw28_RecordPlays.run (a0 : Int) (A1 : Option Addr) (c1 : Nat) (l1 : List S60) (a2 : ByteArray) (a3 : Int) (w : World) (_l0 : -9223372036854775808 ≤ a0) (_u0 : a0 ≤ 9223372036854775807) (hr1 : Kd.C k60 w A1 l1.length l1) (hc1 : l1.length ≤ c1)
    (hI1 : l1.length ≤ maxLen ∧ l1.length * Try.prog.bytesOf 60 ≤ 140737488351232 ∧ ∀ x ∈ l1, (Lit.int .i64 x.f0).wf = true ∧ x.f1.f0.size ≤ 140737488351232 ∧ x.f1.f1.size ≤ 140737488351232 ∧ x.f1.f2.size ≤ 140737488351232 ∧ (Lit.int .u32 x.f1.f3).wf = true ∧ True)
    (hz2 : a2.size ≤ 140737488351232) (_l3 : 0 ≤ a3) (_u3 : a3 ≤ 4294967295) :
    Calls Try.prog 6 #[.int .i64 a0, .slice A1 l1.length c1, .string a2, .int .u32 a3] w fun e w' => e = .returned (.bool true) ∧ Below w.heap.size w w' :=
  Go.Proofs.YtmgpaccgjafjeaaHVR.RecordPlays_run a0 A1 c1 l1 a2 a3 w hr1 hc1 ⟨fun x hx => by
    obtain ⟨_, h1, _, _, h4, _⟩ := hI1.2.2 x hx
    simp only [Lit.wf, Bool.and_eq_true, decide_eq_true_eq] at h4
    have h5 : 0 ≤ x.f1.f3 ∧ x.f1.f3 ≤ 4294967295 := h4
    exact ⟨h1, h5.1, by omega⟩, hz2, _l3, by omega⟩

end Go.Proofs.Ytmgpaccgjafjeaa.PG28
