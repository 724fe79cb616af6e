/- A book's row: what its map holds; what it lists. -/
import Derived.Test.YtmgpaccgjafjeaaHVR2
namespace Go.Proofs.YtmgpaccgjafjeaaHVR
open Go.RowKit Go.Maps Go.Sort Go.Shelf Go.Lib Go.Proofs.YtmgpaccgjafjeaaW.PrintWords Go.Proofs.YtmgpaccgjafjeaaHW Go.Proofs.YtmgpaccgjafjeaaHG Go.Proofs.Ytmgpaccgjafjeaa.PG28 Go.Proofs.YtmgpaccgjafjeaaHT
set_option linter.unusedVariables false
set_option linter.unusedSimpArgs false
def nm (x : El) : ByteArray := x.f0
/-- A row of the call's own, read. -/
theorem C_of_own {w : World} {B : Nat} {v : Value} {ls : List El} (h : w.ownsRow B 24 5 v ls.length (ls.flatMap cel)) :
    ∃ A cap, v = .slice A ls.length cap ∧ ls.length ≤ cap ∧ Kd.C k24 w A ls.length ls ∧ ∀ a, A = some a → B ≤ a.block ∧ ∃ cells, w.heap[a.block]? = some (.cells cells 24 (0, 0)) := by
  obtain ⟨h1, h2⟩ := h
  rcases h2 with ⟨rfl, hz⟩ | ⟨g, cap, cur, rfl, hg, hh, r1, r2, r3, r4⟩
  · have e : ls = [] := List.eq_nil_of_length_eq_zero hz
    subst e
    exact ⟨none, 0, rfl, Nat.le_refl _, ⟨rfl, by decide, fun h => by simp at h⟩, fun a e => by simp at e⟩
  · refine ⟨_, cap, rfl, r1, ⟨rfl, by unfold maxLen at r2; omega, fun _ => ⟨_, rfl, fun j p hj => ⟨cel p, rfl, k24_mk w p, fun i u hu => ?_⟩⟩⟩, fun a e => by cases e; exact ⟨hg, cur, hh⟩⟩
    have hjl : j < ls.length := (List.getElem?_eq_some_iff.1 hj).1
    have hil : i < 5 := by have := (List.getElem?_eq_some_iff.1 hu).1; rw [cel_len] at this; exact this
    have hlt : j * 5 + i < ls.length * 5 := by omega
    have z := Go.Proofs.YtmgpaccgjafjeaaHS.flat_get cel 5 cel_len (by decide) ls (j * 5 + i) hlt
    have d1 : (j * 5 + i) / 5 = j := by omega
    have d2 : (j * 5 + i) % 5 = i := by omega
    have d3 : ls[j]! = p := by rw [getElem!_pos ls j hjl]; obtain ⟨_, e⟩ := List.getElem?_eq_some_iff.1 hj; exact e
    rw [d1, d2, d3, hu, ← r4, List.getElem?_take_of_lt hlt, Array.getElem?_toList] at z
    have e : ((⟨g, 0, none⟩ : Addr).add (j * 5 + i)) = ⟨g, j * 5 + i, none⟩ := by
      unfold Addr.add
      by_cases h0 : j * 5 + i = 0
      · rw [if_pos h0, h0]
      · rw [if_neg h0]; simp
    show w.cell? ((⟨g, 0, none⟩ : Addr).add (j * 5 + i)) = some u
    rw [e]
    simp only [World.cell?, hh]
    simpa using z
/-- What a map of a row holds. -/
def mapOf (ls : List El) : Lit → Option Value
  | .string s => (get nm ls ⟨s.toArray⟩).map encV
  | _ => none
theorem mapOf_str (ls : List El) (s : ByteArray) : mapOf ls (.string s.data.toList) = (get nm ls s).map encV := by
  show (get nm ls ⟨s.data.toList.toArray⟩).map encV = _
  congr 2
theorem mapOf_ins {ls : List El} (hu : Up nm ls) {x : El} (h : get nm ls (nm x) = none) : mput (mapOf ls) (.string x.f0.data.toList) (encV x) = mapOf (ins nm ls x) := by
  funext l
  unfold mput
  split
  · rename_i e
    subst e
    rw [mapOf_str, get_ins hu h, if_pos (show nm x = x.f0 from rfl)]; rfl
  · rename_i e
    cases l with
    | string s =>
      show (get nm ls ⟨s.toArray⟩).map encV = (get nm (ins nm ls x) ⟨s.toArray⟩).map encV
      rw [get_ins hu h, if_neg (fun e' => e (by
        have : x.f0 = ⟨s.toArray⟩ := e'
        rw [this]))]
    | _ => rfl
theorem mapOf_del {ls : List El} (hu : Up nm ls) (s : ByteArray) : mdel (mapOf ls) (.string s.data.toList) = mapOf (del nm ls s) := by
  funext l
  unfold mdel
  split
  · rename_i e
    subst e
    rw [mapOf_str, get_del hu, if_pos rfl]; rfl
  · rename_i e
    cases l with
    | string t =>
      show (get nm ls ⟨t.toArray⟩).map encV = (get nm (del nm ls s) ⟨t.toArray⟩).map encV
      rw [get_del hu, if_neg (fun e' => e (by rw [e']))]
    | _ => rfl
theorem isKey (s : List UInt8) : WideAt.IsKeyLit (.string s) := trivial
theorem encV_inj {x y : El} (h : encV x = encV y) : x = y := by
  rcases x with ⟨⟩
  rcases y with ⟨⟩
  simp only [encV, cel] at h
  injection h with h
  have h := congrArg Array.toList h
  simp at h
  simp [h]
theorem held_inj {v v' : Value} (h : (DataW.held v : DataW Value) = .held v') : v = v' := by injection h
/-- What is held is a row's: each value an element. -/
theorem held_el {w : World} {b c : Nat} {ls : List El} (hm : MapIs Try.prog 9 (.agg #[.string ⟨#[]⟩, .string ⟨#[]⟩, .string ⟨#[]⟩, .int .u32 0, .bool false]) w b (mapOf ls) c) :
    ∃ D : DataW Value, w.ownsMap Try.prog 9 RG b c D ∧ Maps.size D = c ∧ (∀ k c, (∀ zd, D.atKey (.string k) zd = .held c) → ∃ x : El, c = encV x) ∧ (∀ k, has D (.string k) = (get nm ls ⟨k.toArray⟩).isSome) ∧ ∀ k x, (∀ zd, D.atKey (.string k) zd = .held (encV x)) → has D (.string k) = true → get nm ls ⟨k.toArray⟩ = some x := by
  obtain ⟨D, ho, hs, hM⟩ := hm
  have hM' : ∀ k, has D (.string k) = (get nm ls ⟨k.toArray⟩).isSome ∧ D.atKey (.string k) (.held (.agg #[.string ⟨#[]⟩, .string ⟨#[]⟩, .string ⟨#[]⟩, .int .u32 0, .bool false])) = .held (((get nm ls ⟨k.toArray⟩).map encV).getD (.agg #[.string ⟨#[]⟩, .string ⟨#[]⟩, .string ⟨#[]⟩, .int .u32 0, .bool false])) := fun k => by
    have z := hM (.string k) (isKey k)
    have h3 : mapOf ls (.string k) = (get nm ls ⟨k.toArray⟩).map encV := rfl
    rw [h3] at z
    exact ⟨by rw [z.1]; cases get nm ls ⟨k.toArray⟩ <;> rfl, z.2⟩
  refine ⟨D, ho, hs, fun k c hc => ?_, fun k => (hM' k).1, fun k x hc hk => ?_⟩
  · have h2 := (hM' k).2
    rw [hc] at h2
    have e := held_inj h2
    cases hg : get nm ls ⟨k.toArray⟩ with
    | none => rw [hg] at e; exact ⟨z24, e⟩
    | some x => rw [hg] at e; exact ⟨x, e⟩
  · obtain ⟨h1, h2⟩ := hM' k
    rw [hk] at h1
    rw [hc] at h2
    have e := held_inj h2
    cases hg : get nm ls ⟨k.toArray⟩ with
    | none => rw [hg] at h1; simp at h1
    | some y =>
      rw [hg] at e
      have e' : encV x = encV y := e
      rw [encV_inj e']
/-- What is collected and sorted is the row. -/
theorem sorted_row {D : DataW Value} {ls xs ys : List El} (hu : Up nm ls) (h1 : ∀ k, has D (.string k) = (get nm ls ⟨k.toArray⟩).isSome) (h2 : ∀ k x, (∀ zd, D.atKey (.string k) zd = .held (encV x)) → has D (.string k) = true → get nm ls ⟨k.toArray⟩ = some x)
    (hx : AllVals D xs) (hp : ys.Perm xs) (hs : ys.Pairwise (fun a b => Go.Proofs.YtmgpaccgjafjeaaHT.lt b.f0 a.f0 = false)) : ys = ls := by
  obtain ⟨ps, p1, p2, p3, rfl⟩ := hx
  have hel : ∀ p ∈ ps, get nm ls ⟨p.1.toArray⟩ = some p.2 := fun p hpm => h2 p.1 p.2 (p3 p hpm) ((p2 p.1).mp (List.mem_map_of_mem hpm))
  have hnm : ∀ p ∈ ps, p.1 = (nm p.2).data.toList := fun p hpm => by
    have := (get_some (hel p hpm)).2
    rw [this]
  have hmem : ∀ x, x ∈ ps.map (·.2) ↔ x ∈ ls := fun x => by
    constructor
    · intro h
      obtain ⟨p, hpm, rfl⟩ := List.mem_map.mp h
      exact (get_some (hel p hpm)).1
    · intro h
      have hg := get_of_mem hu h
      have hk : has D (.string (nm x).data.toList) = true := by rw [h1]; show (get nm ls ⟨(nm x).data.toList.toArray⟩).isSome = true; rw [show (⟨(nm x).data.toList.toArray⟩ : ByteArray) = nm x from rfl, hg]; rfl
      obtain ⟨p, hpm, e⟩ := List.mem_map.mp ((p2 _).mpr hk)
      have hgp := hel p hpm
      rw [e, show (⟨(nm x).data.toList.toArray⟩ : ByteArray) = nm x from rfl, hg] at hgp
      exact List.mem_map.mpr ⟨p, hpm, (Option.some.inj hgp).symm⟩
  have hnd : (ps.map (·.2)).Pairwise (fun a b => nm a ≠ nm b) := by
    rw [List.pairwise_map]
    have q : ps.Pairwise (fun a b => a.1 ≠ b.1) := List.pairwise_map.mp p1
    refine List.Pairwise.imp_of_mem ?_ q
    intro a b ha hb hne e
    exact hne (by rw [hnm a ha, hnm b hb, e])
  have hnd' : ys.Pairwise (fun a b => nm a ≠ nm b) := (hp.pairwise_iff (fun {a b} h => h.symm)).mpr hnd
  refine Up.ext ?_ hu (fun x => by rw [hp.mem_iff]; exact hmem x)
  refine (hs.and hnd').imp ?_
  rintro a b ⟨q1, q2⟩
  show Go.Proofs.YtmgpaccgjafjeaaHT.lt a.f0 b.f0 = true
  cases h : Go.Proofs.YtmgpaccgjafjeaaHT.lt a.f0 b.f0 with
  | true => rfl
  | false => exact absurd (lt_total h q1) q2
theorem allVals_len {D : DataW Value} {ls xs : List El} (hu : Up nm ls) (h1 : ∀ k, has D (.string k) = (get nm ls ⟨k.toArray⟩).isSome) (h2 : ∀ k x, (∀ zd, D.atKey (.string k) zd = .held (encV x)) → has D (.string k) = true → get nm ls ⟨k.toArray⟩ = some x)
    (hx : AllVals D xs) : xs.length = ls.length := by
  have hp := List.mergeSort_perm xs (fun a b => !(Go.Proofs.YtmgpaccgjafjeaaHT.lt b.f0 a.f0))
  have hs := List.pairwise_mergeSort (le := fun a b : El => !(Go.Proofs.YtmgpaccgjafjeaaHT.lt b.f0 a.f0)) (fun a b c q1 q2 => by
      have e := swoN.ntrans c b a (by rw [ltN]; simpa using q2) (by rw [ltN]; simpa using q1)
      rw [ltN] at e
      simpa using e) (fun a b => by
      cases q1 : Go.Proofs.YtmgpaccgjafjeaaHT.lt b.f0 a.f0 with
      | false => simp
      | true => have q2 := lt_asymm q1; simp [q2]) xs
  have e := sorted_row hu h1 h2 hx hp (hs.imp (fun {a b} h => by simpa using h))
  rw [← e]
  exact hp.length_eq.symm
end Go.Proofs.YtmgpaccgjafjeaaHVR
