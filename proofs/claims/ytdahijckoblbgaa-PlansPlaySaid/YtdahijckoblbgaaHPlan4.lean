/- plans.Book: Add and Del whole, New. -/
import Derived.Test.YtdahijckoblbgaaHPlan3
namespace Go.Proofs.YtdahijckoblbgaaHVP
open Go.RowKit Go.Maps Go.Sort Go.Shelf Go.Lib Go.Proofs.YtdahijckoblbgaaW.PrintWords Go.Proofs.YtdahijckoblbgaaHW Go.Proofs.YtdahijckoblbgaaHG Go.Proofs.Ytdahijckoblbgaa.PG27 Go.Proofs.YtdahijckoblbgaaHT
set_option linter.unusedVariables false
set_option linter.unusedSimpArgs false
/-- What an Add answers, and what there is then. -/
def addK (ls : List El) (x : El) : Int := if okB x = false then 2 else if (get nm ls x.f0).isSome = true then 9 else if 32 ≤ ls.length then 4 else 0
def addL (ls : List El) (x : El) : List El := if addK ls x = 0 then ins nm ls x else ls
theorem Valid.nil : Valid [] := ⟨Up.nil, by decide, fun x hx => by simp at hx⟩
theorem addK_zero {ls : List El} {x : El} (h : addK ls x = 0) : okB x = true ∧ get nm ls x.f0 = none ∧ ls.length < 32 := by
  unfold addK at h
  split at h
  · exact absurd h (by decide)
  · rename_i h1
    split at h
    · exact absurd h (by decide)
    · rename_i h2
      split at h
      · exact absurd h (by decide)
      · rename_i h3
        refine ⟨by simpa using h1, ?_, by omega⟩
        cases hg : get nm ls x.f0 with
        | none => rfl
        | some y => rw [hg] at h2; exact absurd rfl h2
theorem Valid.add {ls : List El} (hv : Valid ls) (x : El) : Valid (addL ls x) := by
  unfold addL
  split
  · rename_i h
    obtain ⟨h1, h2, h3⟩ := addK_zero h
    refine ⟨hv.up.ins h2, by rw [ins_len]; omega, fun y hy => ?_⟩
    rcases mem_ins.mp hy with rfl | hy
    · exact h1
    · exact hv.ok y hy
  · exact hv
def delK (ls : List El) (s : ByteArray) : Int := if (get nm ls s).isSome = true then 0 else 3
theorem Valid.del {ls : List El} (hv : Valid ls) (s : ByteArray) : Valid (del nm ls s) :=
  ⟨hv.up.del s, by have := hv.len; have := List.length_filter_le (fun x => decide (nm x ≠ s)) ls; show (Go.Proofs.YtdahijckoblbgaaHT.del nm ls s).length ≤ 32; unfold Go.Proofs.YtdahijckoblbgaaHT.del; omega, fun y hy => hv.ok y (mem_del.mp hy).1⟩
def AddPost (g b : Nat) (ls : List El) (x : El) (w : World) (e : Ending) (w' : World) : Prop := e = .returned (.int .i64 (addK ls x)) ∧ BookAt w' g b (addL ls x) ∧ KB b w w'
theorem AddAll (g b : Nat) (ls : List El) (x : El) (w : World) (h : BookAt w g b ls) (hv : Valid ls) (hx : x.f0.size ≤ 140737488351232) :
    Calls Try.prog 17 #[.pointer (some ⟨g, 0, none⟩), .agg #[.string x.f0, .int .i64 x.f1]] w (AddPost g b ls x w) := by
  have no : ∀ c : Int, addK ls x = c → c ≠ 0 → ∀ e w', (e = .returned (.int .i64 c) ∧ Below w.heap.size w w') → AddPost g b ls x w e w' := fun c hc h0 e w' ⟨he, hb⟩ =>
    ⟨by rw [hc]; exact he, by unfold addL; rw [if_neg (by rw [hc]; exact h0)]; exact h.kb hb, KB.below hb⟩
  cases hc : okB x with
  | false => exact (AddArg g b ls x w h hv hx hc).mono fun e w' hp => no 2 (by unfold addK; rw [if_pos hc]) (by decide) e w' hp
  | true =>
    cases hg : get nm ls x.f0 with
    | some y => exact (AddHave g b ls x w h hv hx hc y hg).mono fun e w' hp => no 9 (by unfold addK; rw [if_neg (by rw [hc]; decide), if_pos (by rw [hg]; rfl)]) (by decide) e w' hp
    | none =>
      by_cases hl : 32 ≤ ls.length
      · exact (AddFull g b ls x w h hv hx hc hg hl).mono fun e w' hp => no 4 (by unfold addK; rw [if_neg (by rw [hc]; decide), if_neg (by rw [hg]; decide), if_pos hl]) (by decide) e w' hp
      · have h0 : addK ls x = 0 := by unfold addK; rw [if_neg (by rw [hc]; decide), if_neg (by rw [hg]; decide), if_neg hl]
        refine (AddYes g b ls x w h hv hx hc hg (by omega)).mono fun e w' hp => ⟨by rw [h0]; exact hp.1, by unfold addL; rw [if_pos h0]; exact hp.2.1, hp.2.2⟩
def DelPost (g b : Nat) (ls : List El) (s : ByteArray) (w : World) (e : Ending) (w' : World) : Prop := e = .returned (.int .i64 (delK ls s)) ∧ BookAt w' g b (del nm ls s) ∧ KB b w w'
theorem DelAll (g b : Nat) (ls : List El) (s : ByteArray) (w : World) (h : BookAt w g b ls) (hv : Valid ls) (hx : s.size ≤ 140737488351232) :
    Calls Try.prog 18 #[.pointer (some ⟨g, 0, none⟩), .string s] w (DelPost g b ls s w) := by
  cases hg : get nm ls s with
  | some y => exact (DelYes g b ls s w h hv hx y hg).mono fun e w' hp => ⟨by unfold delK; rw [hg]; exact hp.1, hp.2.1, hp.2.2⟩
  | none => exact (DelNone g b ls s w h hv hx hg).mono fun e w' hp => ⟨by unfold delK; rw [hg]; exact hp.1, by rw [del_none hg]; exact h.kb hp.2, KB.below hp.2⟩
/-- What New comes to, plan by plan. -/
def new1 (acc : Int × List El) (x : El) : Int × List El := if acc.1 = 0 then (addK acc.2 x, addL acc.2 x) else acc
def newAll (l : List El) : Int × List El := l.foldl new1 (0, [])
theorem new_stuck (l : List El) (acc : Int × List El) (h : acc.1 ≠ 0) : l.foldl new1 acc = acc := by
  induction l with
  | nil => rfl
  | cons x l ih => rw [List.foldl_cons, show new1 acc x = acc from if_neg h]; exact ih
theorem new_snoc {l : List El} {k : Nat} {x : El} (hlt : k < l.length) (hx : x = rd_T30 l (k : Int)) : newAll (l.take (k + 1)) = new1 (newAll (l.take k)) x := by
  have e : l.take (k + 1) = l.take k ++ [x] := by
    rw [List.take_succ_eq_append_getElem hlt, hx]
    unfold rd_T30
    rw [Int.toNat_natCast, List.getD_eq_getElem?_getD, List.getElem?_eq_getElem hlt]; rfl
  unfold newAll
  rw [e, List.foldl_append]; rfl
theorem new_at {l : List El} {k : Nat} {acc : Int × List El} (h : newAll (l.take k) = acc) (h0 : acc.1 ≠ 0) : newAll l = acc := by
  unfold newAll at *
  conv => lhs; rw [← List.take_append_drop k l, List.foldl_append, h]
  exact new_stuck _ _ h0
theorem new_valid (l : List El) (acc : Int × List El) (hv : Valid acc.2) : Valid (l.foldl new1 acc).2 := by
  induction l generalizing acc with
  | nil => exact hv
  | cons x l ih =>
    rw [List.foldl_cons]
    refine ih _ ?_
    unfold new1
    split
    · exact hv.add x
    · exact hv
def NewOkPost (ls : List El) (w : World) (e : Ending) (w' : World) : Prop := ∃ g b, e = .returned (.tuple #[.pointer (some ⟨g, 0, none⟩), .int .i64 0]) ∧ BookAt w' g b ls ∧ w.heap.size ≤ g ∧ w.heap.size ≤ b ∧ Below w.heap.size w w'
def NewPost (l : List El) (w : World) (e : Ending) (w' : World) : Prop := if (newAll l).1 = 0 then NewOkPost (newAll l).2 w e w' else e = .returned (.tuple #[.pointer none, .int .i64 (newAll l).1]) ∧ Below w.heap.size w w'
set_option maxRecDepth 100000 in
set_option maxHeartbeats 2000000 in
theorem New (A0 : Option Addr) (c0 : Nat) (l : List El) (w : World) (hr : Kd.C k30 w A0 l.length l) (hc : l.length ≤ c0) (hs : ∀ x ∈ l, x.f0.size ≤ 140737488351232) :
    Calls Try.prog 11 #[.slice A0 l.length c0] w (NewPost l w) := by
  have hmm := @run_makeMap Try.prog
  have HR0 := Aside0.mk hr
  have HS := Aside0.mk hs
  have hlen := hr.2.1
  have huE := Try.underlying30
  have huB := Try.underlying82
  have huK := Try.underlying84
  clear hr hs
  go_enter Try.func11, Try.ntmps11
  go_wp2_with fail
  have hb0 : Below w.heap.size w ((w.alloc (Obj.map #[] 0)).alloc (Obj.cells #[Value.map (some w.heap.size)] 84)) := ((Below.refl _ w).alloc (Nat.le_refl _) _).alloc (by simp) _
  have hbk : BookAt ((w.alloc (Obj.map #[] 0)).alloc (Obj.cells #[Value.map (some w.heap.size)] 84)) (w.heap.size + 1) w.heap.size [] := by
    refine ⟨?_, ?_, by omega⟩
    · have z := World.alloc_heap_new (w.alloc (Obj.map #[] 0)) (Obj.cells #[Value.map (some w.heap.size)] 84)
      rw [World.size_alloc] at z
      exact z
    · exact ((MapIs.made Try.prog 9 ZP w).alloc _).congr (fun l hl => by cases l <;> rfl)
  have HB0 := Aside0.mk hb0
  have HK0 := Aside0.mk hbk
  clear hb0 hbk
  go_loopw [14] (fun v14 wr => ∃ (k : Nat) (ls : List El), k ≤ l.length ∧ v14 = .int .i64 (k : Int) ∧ Aside0 (newAll (l.take k) = (0, ls)) ∧ Aside0 (BookAt wr (w.heap.size + 1) w.heap.size ls) ∧ Aside0 (Valid ls) ∧ Aside0 (Below w.heap.size w wr)) (fun v14 _ => l.length - (intOf v14).toNat)
  case atStart => exact ⟨0, [], by omega, rfl, ⟨rfl⟩, HK0, ⟨Valid.nil⟩, HB0⟩
  case round =>
    clear HB0 HK0
    obtain ⟨k, ls, hk, rfl, HE, HG, HV, HB⟩ := hrel
    by_cases hlt : k < l.length
    · obtain ⟨x, hx⟩ : ∃ x, x = rd_T30 l k := ⟨_, rfl⟩
      have HC := Kd.C_below HR0.out HB.out
      obtain ⟨ad, rfl, q0, q1⟩ := at_T30 HC (k : Int) (by omega) (by omega)
      rw [← hx, Int.toNat_natCast] at q0 q1
      have hlt' : (k : Int) < (l.length : Int) := by omega
      have hxm : x ∈ l := by
        rw [hx]; unfold rd_T30
        rw [Int.toNat_natCast, List.getD_eq_getElem?_getD, List.getElem?_eq_getElem hlt]
        exact List.getElem_mem _
      have hxs := HS.out x hxm
      have hsn := new_snoc hlt hx
      rw [HE.out] at hsn
      have HN := Aside0.mk (show newAll (l.take (k + 1)) = (addK ls x, addL ls x) by rw [hsn]; rfl)
      clear HC hx hsn hxm
      obtain ⟨c, hc⟩ : ∃ c, addK ls x = c := ⟨_, rfl⟩
      by_cases h0 : c = 0
      · subst h0
        have HC0 := Aside0.mk hc
        clear hc
        go_wp2_with (go_at_call 17; go_must (refine (AddAll (w.heap.size + 1) w.heap.size ls x _ (HG.out.kb ((Below.refl _ wr).alloc (Nat.le_refl _) _)) HV.out hxs).mono ?_); rw [show AddPost (w.heap.size + 1) w.heap.size ls x = fun W e W' => e = .returned (.int .i64 0) ∧ BookAt W' (w.heap.size + 1) w.heap.size (addL ls x) ∧ KB w.heap.size W W' from by unfold AddPost; rw [HC0.out]]; go_must (rintro e w5 ⟨rfl, hP, hk5⟩; have HG5 := Aside0.mk hP; have HB5 := Aside0.mk (KB.to_below (HB.out.alloc HB.out.size _) hk5 (Nat.le_refl _) (by have := HB.out.size; simp; omega))); clear hP hk5)
        go_roundw
        case rel => exact ⟨k + 1, addL ls x, by omega, by go_num, ⟨by rw [HN.out, HC0.out]⟩, HG5, ⟨HV.out.add x⟩, HB5⟩
        case measure => simp [intOf]; omega
      · have HC0 := Aside0.mk hc
        have hcb : (c == 0) = false := beq_eq_false_iff_ne.mpr h0
        have HZ := Aside0.mk h0
        clear hc h0
        go_wp2_with (go_at_call 17; go_must (refine (AddAll (w.heap.size + 1) w.heap.size ls x _ (HG.out.kb ((Below.refl _ wr).alloc (Nat.le_refl _) _)) HV.out hxs).mono ?_); rw [show AddPost (w.heap.size + 1) w.heap.size ls x = fun W e W' => e = .returned (.int .i64 c) ∧ BookAt W' (w.heap.size + 1) w.heap.size (addL ls x) ∧ KB w.heap.size W W' from by unfold AddPost; rw [HC0.out]]; go_must (rintro e w5 ⟨rfl, hP, hk5⟩; have HG5 := Aside0.mk hP; have HB5 := Aside0.mk (KB.to_below (HB.out.alloc HB.out.size _) hk5 (Nat.le_refl _) (by have := HB.out.size; simp; omega))); clear hP hk5)
        go_ret2
        have e := new_at HN.out (by rw [HC0.out]; exact HZ.out)
        unfold NewPost
        rw [e, if_neg (by rw [HC0.out]; exact HZ.out), HC0.out]
        exact ⟨rfl, HB5.out⟩
    · have hge : ¬ (k : Int) < (l.length : Int) := by omega
      have HK := Aside0.mk (show k = l.length by omega)
      clear hlt
      go_wp2_with fail
      go_ret2
      have e := HE.out
      rw [HK.out, List.take_length] at e
      unfold NewPost
      rw [e, if_pos rfl]
      exact ⟨_, _, rfl, HG.out, by omega, Nat.le_refl _, HB.out⟩
end Go.Proofs.YtdahijckoblbgaaHVP
