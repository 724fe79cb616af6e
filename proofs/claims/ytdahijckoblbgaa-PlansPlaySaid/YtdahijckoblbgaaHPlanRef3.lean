/- The document's answer to plans: one goes; New. -/
import Derived.Test.YtdahijckoblbgaaHPlanRef2
import Derived.Deep.RegionLaw
namespace Go.Proofs.YtdahijckoblbgaaHVP
open Go.RowKit Go.Maps Go.Sort Go.Shelf Go.Lib Go.Proofs.YtdahijckoblbgaaW.PrintWords Go.Proofs.YtdahijckoblbgaaHW Go.Proofs.YtdahijckoblbgaaHG Go.Proofs.Ytdahijckoblbgaa.PG27 Go.Proofs.YtdahijckoblbgaaHT
set_option linter.unusedVariables false
set_option linter.unusedSimpArgs false
theorem row_end0 {r n3 cap3 : Nat} {ls : List El} {w w0 w5 : World} {ad3 : Option Addr} {v : Value} (hb0 : Below w.heap.size w w0) (hb5 : Below w0.heap.size w0 w5) (zr : r < w0.heap.size)
    (h1 : w5.heap[r]? = some (.cells #[v] 49 (0, 0))) (own : w5.ownsRow w0.heap.size 30 2 (.slice ad3 n3 cap3) n3 (ls.flatMap cel)) (hn : ls.length = n3) :
    RefB (w5.setCell ⟨r, 0, none⟩ (.slice ad3 n3 cap3)) r ls ∧ KB r w (w5.setCell ⟨r, 0, none⟩ (.slice ad3 n3 cap3)) := row_end hb0 hb5 zr h1 own hn

set_option maxRecDepth 100000 in
set_option maxHeartbeats 2000000 in
theorem RefDelYes (r : Nat) (ls : List El) (s : ByteArray) (x : El) (w : World) (gl cap : Nat) (hcap : ls.length ≤ cap) (h : RefV w r ls (.slice (some ⟨gl, 0, none⟩) ls.length cap)) (hv : Up nm ls) (h32 : ls.length ≤ 32) (hg : get nm ls s = some x) :
    Calls Try.prog 24 #[.pointer (some ⟨r, 0, none⟩), .string s] w fun e w' => e = .returned (.int .i64 0) ∧ RefB w' r (del nm ls s) ∧ KB r w w' := by
  obtain ⟨j, hi⟩ : ∃ i, ix nm ls s = i := ⟨_, rfl⟩
  have HA := Aside0.mk (At_some h.b hv (by omega) hg hi)
  have hd := del_ix hv hg
  have hx := (ix_get hv hg).1
  rw [hi] at hx hd
  have hjl := (List.getElem?_eq_some_iff.1 hx).1
  have HD := Aside0.mk hd
  have HR := Aside0.mk h
  have j0 : ¬ (j : Int) < 0 := by omega
  have j1 : IntKind.i64.wrap ((j : Int) + 1) = j + 1 := by rw [IntKind.wrap_i64]; omega
  have j2 : (j : Int) + 1 ≤ (ls.length : Int) := by omega
  have j3 : (j : Int) ≤ (cap : Int) := by omega
  have j5 : (j : Int) + 1 ≤ (cap : Int) := by omega
  have j7 : (0 : Int) ≤ (j : Int) + 1 := by omega
  have j9 : (ls.length : Int) ≤ (cap : Int) := by omega
  clear h hv hg hi hd hx
  by_cases hc : j + 1 = cap
  · subst hc
    have j8 : (j : Int) ≤ (j : Int) + 1 := by omega
    go_enter Try.func24, Try.ntmps24
    go_wp2_with (go_at_call 48; refine HA.out.mono ?_; rintro e w1 ⟨rfl, hb⟩; replace HR := Aside0.mk (HR.out.below hb); have HB := Aside0.mk hb; have k2 := blk_cell HR.out.1 0; have zg := blk_lt HR.out.1; have fz := blk_frozen HR.out.1 0; simp only [List.getElem?_toArray, List.getElem?_cons_zero] at k2; clear hb)
    go_region_law (first | (refine step_appendC _ rfl (.const (.slice none 0 0)) (.tmp 21) 22 rfl w1.heap.size 30 (.agg #[.string ⟨#[]⟩, .int .i64 0]) 24 Try.underlying22 infoEl rfl (.slice none 0 0) 0 [] rfl (own_nil _ _ _ _) (.slice (some ⟨gl, 0, none⟩) j (j + 1)) j ((ls.take j).flatMap cel) rfl (src_take (show (World.drew w1).ownsRow 0 30 2 _ _ _ from HR.out.2.1) j _ (by omega)) (cells_one _) (by unfold maxLen; omega) (by omega) (Nat.le_refl _) ?_; intro v1 w3 own1 gr1; have hb3 := (Below.refl w1.heap.size (World.drew w1)).grown gr1 (Nat.le_refl _) (fun j hj => by simp [Value.ownBlock] at hj); rw [Nat.zero_add, List.nil_append] at own1; have OWN1 := Aside0.mk own1; have HB3 := Aside0.mk hb3; have H13 := Aside0.mk ((hb3.block r (blk_lt HR.out.1)).trans HR.out.1); clear own1 gr1 hb3; have k3 := blk_cell H13.out 0; have zg3 := blk_lt H13.out; have fz3 := blk_frozen H13.out 0; simp only [List.getElem?_toArray, List.getElem?_cons_zero, List.getElem?_cons_succ] at k3) | (refine step_appendC _ rfl (.tmp 22) (.tmp 29) 22 rfl w1.heap.size 30 (.agg #[.string ⟨#[]⟩, .int .i64 0]) 24 Try.underlying22 infoEl rfl v1 j ((ls.take j).flatMap cel) rfl OWN1.out (.slice (some ⟨gl, 0, none⟩) 0 0) 0 ((ls.drop (j + 1)).flatMap cel) rfl (src_end _ gl _ (j + 1) ls (by omega)) (cells_one _) (by unfold maxLen; omega) (by omega) HB3.out.size ?_; intro v2 w4 own2 gr2; obtain ⟨ad2, cap2, rfl⟩ := own_slice own2; have hb4 := HB3.out.grown gr2 HB3.out.size (fun j hj => (OWN1.out.lt j hj).1); have OWN2 := Aside0.mk own2; have HB4 := Aside0.mk hb4; have H14 := Aside0.mk ((hb4.block r (blk_lt HR.out.1)).trans HR.out.1); clear own2 gr2 hb4; have k4 := blk_cell H14.out 0; have zg4 := blk_lt H14.out; have fz4 := blk_frozen H14.out 0; simp only [List.getElem?_toArray, List.getElem?_cons_zero, List.getElem?_cons_succ] at k4))
    all_goals
      go_wp2
      go_ret
      have E := row_end (ls := del nm ls s) (n3 := j + 0) HB.out ⟨HB4.out.os, HB4.out.tape, HB4.out.output, HB4.out.size, HB4.out.block⟩ (blk_lt HR.out.1) H14.out (by
        have q := OWN2.out
        rw [HD.out, List.flatMap_append]
        exact q) (by rw [HD.out, List.length_append, List.length_take, List.length_drop]; omega)
      exact ⟨rfl, E.1, E.2⟩
  · have j4 : ¬ cap = j + 1 := fun e => hc e.symm
    have j6 : ¬ (cap : Int) = (j : Int) + 1 := by omega
    go_enter Try.func24, Try.ntmps24
    go_wp2_with (go_at_call 48; refine HA.out.mono ?_; rintro e w1 ⟨rfl, hb⟩; replace HR := Aside0.mk (HR.out.below hb); have HB := Aside0.mk hb; have k2 := blk_cell HR.out.1 0; have zg := blk_lt HR.out.1; have fz := blk_frozen HR.out.1 0; simp only [List.getElem?_toArray, List.getElem?_cons_zero] at k2; clear hb)
    go_region_law (first | (refine step_appendC _ rfl (.const (.slice none 0 0)) (.tmp 21) 22 rfl w1.heap.size 30 (.agg #[.string ⟨#[]⟩, .int .i64 0]) 24 Try.underlying22 infoEl rfl (.slice none 0 0) 0 [] rfl (own_nil _ _ _ _) (.slice (some ⟨gl, 0, none⟩) j cap) j ((ls.take j).flatMap cel) rfl (src_take (show (World.drew w1).ownsRow 0 30 2 _ _ _ from HR.out.2.1) j _ (by omega)) (cells_one _) (by unfold maxLen; omega) (by omega) (Nat.le_refl _) ?_; intro v1 w3 own1 gr1; have hb3 := (Below.refl w1.heap.size (World.drew w1)).grown gr1 (Nat.le_refl _) (fun j hj => by simp [Value.ownBlock] at hj); rw [Nat.zero_add, List.nil_append] at own1; have OWN1 := Aside0.mk own1; have HB3 := Aside0.mk hb3; have H13 := Aside0.mk ((hb3.block r (blk_lt HR.out.1)).trans HR.out.1); clear own1 gr1 hb3; have k3 := blk_cell H13.out 0; have zg3 := blk_lt H13.out; have fz3 := blk_frozen H13.out 0; simp only [List.getElem?_toArray, List.getElem?_cons_zero, List.getElem?_cons_succ] at k3) | (refine step_appendC _ rfl (.tmp 22) (.tmp 29) 22 rfl w1.heap.size 30 (.agg #[.string ⟨#[]⟩, .int .i64 0]) 24 Try.underlying22 infoEl rfl v1 j ((ls.take j).flatMap cel) rfl OWN1.out (.slice (some ⟨gl, (j + 1) * 2, none⟩) (ls.length - (j + 1)) _) (ls.length - (j + 1)) ((ls.drop (j + 1)).flatMap cel) rfl (src_drop (pw_own_below (show (World.drew w1).ownsRow 0 30 2 _ _ _ from HR.out.2.1) HB3.out) (j + 1) _ (by omega)) (cells_one _) (by unfold maxLen; omega) (by omega) HB3.out.size ?_; intro v2 w4 own2 gr2; obtain ⟨ad2, cap2, rfl⟩ := own_slice own2; have hb4 := HB3.out.grown gr2 HB3.out.size (fun j hj => (OWN1.out.lt j hj).1); have OWN2 := Aside0.mk own2; have HB4 := Aside0.mk hb4; have H14 := Aside0.mk ((hb4.block r (blk_lt HR.out.1)).trans HR.out.1); clear own2 gr2 hb4; have k4 := blk_cell H14.out 0; have zg4 := blk_lt H14.out; have fz4 := blk_frozen H14.out 0; simp only [List.getElem?_toArray, List.getElem?_cons_zero, List.getElem?_cons_succ] at k4))
    all_goals
      go_wp2
      go_ret
      have E := row_end (ls := del nm ls s) (n3 := j + (ls.length - (j + 1))) HB.out ⟨HB4.out.os, HB4.out.tape, HB4.out.output, HB4.out.size, HB4.out.block⟩ (blk_lt HR.out.1) H14.out (by
        have q := OWN2.out
        rw [HD.out, List.flatMap_append]
        exact q) (by rw [HD.out, List.length_append, List.length_take, List.length_drop]; omega)
      exact ⟨rfl, E.1, E.2⟩

set_option maxRecDepth 100000 in
set_option maxHeartbeats 1000000 in
theorem RefDelNone (r : Nat) (ls : List El) (s : ByteArray) (w : World) (h : RefB w r ls) (hv : Up nm ls) (h32 : ls.length ≤ 32) (hg : get nm ls s = none) :
    Calls Try.prog 24 #[.pointer (some ⟨r, 0, none⟩), .string s] w fun e w' => e = .returned (.int .i64 3) ∧ Below w.heap.size w w' := by
  obtain ⟨j, hi⟩ : ∃ i, ix nm ls s = i := ⟨_, rfl⟩
  have HA := Aside0.mk (At_none h hv (by omega) hg hi)
  clear h hv hg hi
  go_enter Try.func24, Try.ntmps24
  go_wp2_with (go_at_call 48; refine HA.out.mono ?_; rintro e w1 ⟨rfl, hb⟩; have HB := Aside0.mk hb; clear hb)
  go_ret
  exact ⟨rfl, HB.out⟩
def RefDelPost (r : Nat) (ls : List El) (s : ByteArray) (w : World) (e : Ending) (w' : World) : Prop := e = .returned (.int .i64 (delK ls s)) ∧ RefB w' r (del nm ls s) ∧ KB r w w'
theorem RefDelAll (r : Nat) (ls : List El) (s : ByteArray) (w : World) (h : RefB w r ls) (hv : Valid ls) :
    Calls Try.prog 24 #[.pointer (some ⟨r, 0, none⟩), .string s] w (RefDelPost r ls s w) := by
  have h32 := hv.len
  cases hg : get nm ls s with
  | some y =>
    rcases h.form with ⟨hf, rfl⟩ | ⟨gl, cap, hf, hcap⟩
    · exact absurd hg (by simp [Go.Proofs.YtdahijckoblbgaaHT.get])
    · exact (RefDelYes r ls s y w gl cap hcap hf hv.up (by omega) hg).mono fun e w' hp => ⟨by unfold delK; rw [hg]; exact hp.1, hp.2.1, hp.2.2⟩
  | none => exact (RefDelNone r ls s w h hv.up (by omega) hg).mono fun e w' hp => ⟨by unfold delK; rw [hg]; exact hp.1, by rw [del_none hg]; exact h.below hp.2, KB.below hp.2⟩
def RefNewOk (ls : List El) (w : World) (e : Ending) (w' : World) : Prop := ∃ r, e = .returned (.tuple #[.pointer (some ⟨r, 0, none⟩), .int .i64 0]) ∧ RefB w' r ls ∧ w.heap.size ≤ r ∧ Below w.heap.size w w'
def RefNewPost (l : List El) (w : World) (e : Ending) (w' : World) : Prop := if (newAll l).1 = 0 then RefNewOk (newAll l).2 w e w' else e = .returned (.tuple #[.pointer none, .int .i64 (newAll l).1]) ∧ Below w.heap.size w w'
set_option maxRecDepth 100000 in
set_option maxHeartbeats 2000000 in
theorem RefNew (A0 : Option Addr) (c0 : Nat) (l : List El) (w : World) (hr : Kd.C k30 w A0 l.length l) (hc : l.length ≤ c0) :
    Calls Try.prog 20 #[.slice A0 l.length c0] w (RefNewPost l w) := by
  have HR0 := Aside0.mk hr
  have hlen := hr.2.1
  have huE := Try.underlying30
  have huB := Try.underlying49
  clear hr
  go_enter Try.func20, Try.ntmps20
  go_wp2_with fail
  have hb0 : Below w.heap.size w (w.alloc (Obj.cells #[Value.slice none 0 0] 49)) := (Below.refl _ w).alloc (Nat.le_refl _) _
  have hbk : RefB (w.alloc (Obj.cells #[Value.slice none 0 0] 49)) w.heap.size [] := ⟨_, heap_alloc_new w _, World.ownsRow_nil _ _ _ _, by simp [Value.ownBlock]⟩
  have HB0 := Aside0.mk hb0
  have HK0 := Aside0.mk hbk
  clear hb0 hbk
  go_loopw [5] (fun v5 wr => ∃ (k : Nat) (ls : List El), k ≤ l.length ∧ v5 = .int .i64 (k : Int) ∧ Aside0 (newAll (l.take k) = (0, ls)) ∧ Aside0 (RefB wr w.heap.size ls) ∧ Aside0 (Valid ls) ∧ Aside0 (Below w.heap.size w wr)) (fun v5 _ => l.length - (intOf v5).toNat)
  case atStart => exact ⟨0, [], by omega, rfl, ⟨rfl⟩, HK0, ⟨Valid.nil⟩, HB0⟩
  case round =>
    clear HB0 HK0
    obtain ⟨k, ls, hk, rfl, HE, HG, HV, HB⟩ := hrel
    by_cases hlt : k < l.length
    · obtain ⟨x, hx⟩ : ∃ x, x = rd_T30 l k := ⟨_, rfl⟩
      have HC := Kd.C_below HR0.out HB.out
      obtain ⟨ad, rfl, q0, q1⟩ := at_T30 HC (k : Int) (by omega) (by omega)
      rw [← hx, Int.toNat_natCast] at q0 q1
      have hlt' : (k : Int) < (l.length : Int) := by omega
      have hsn := new_snoc hlt hx
      rw [HE.out] at hsn
      have HN := Aside0.mk (show newAll (l.take (k + 1)) = (addK ls x, addL ls x) by rw [hsn]; rfl)
      clear HC hx hsn
      obtain ⟨c, hc⟩ : ∃ c, addK ls x = c := ⟨_, rfl⟩
      by_cases h0 : c = 0
      · subst h0
        have HC0 := Aside0.mk hc
        clear hc
        go_wp2_with (go_at_call 23; go_must (refine (RefAddAll w.heap.size ls x _ HG.out HV.out).mono ?_); rw [show RefAddPost w.heap.size ls x = fun W e W' => e = .returned (.int .i64 0) ∧ RefB W' w.heap.size (addL ls x) ∧ KB w.heap.size W W' from by unfold RefAddPost; rw [HC0.out]]; go_must (rintro e w5 ⟨rfl, hP, hk5⟩; have HG5 := Aside0.mk hP; have HB5 := Aside0.mk (KB.to_below HB.out hk5 (Nat.le_refl _) HB.out.size)); clear hP hk5)
        go_roundw
        case rel => exact ⟨k + 1, addL ls x, by omega, by go_num, ⟨by rw [HN.out, HC0.out]⟩, HG5, ⟨HV.out.add x⟩, HB5⟩
        case measure => simp [intOf]; omega
      · have HC0 := Aside0.mk hc
        have hcb : (c == 0) = false := beq_eq_false_iff_ne.mpr h0
        have hcn : (c != 0) = true := bne_iff_ne.mpr h0
        have HZ := Aside0.mk h0
        clear hc h0
        go_wp2_with (go_at_call 23; go_must (refine (RefAddAll w.heap.size ls x _ HG.out HV.out).mono ?_); rw [show RefAddPost w.heap.size ls x = fun W e W' => e = .returned (.int .i64 c) ∧ RefB W' w.heap.size (addL ls x) ∧ KB w.heap.size W W' from by unfold RefAddPost; rw [HC0.out]]; go_must (rintro e w5 ⟨rfl, hP, hk5⟩; have HG5 := Aside0.mk hP; have HB5 := Aside0.mk (KB.to_below HB.out hk5 (Nat.le_refl _) HB.out.size)); clear hP hk5)
        go_ret2
        have e := new_at HN.out (by rw [HC0.out]; exact HZ.out)
        unfold RefNewPost
        rw [e, if_neg (by rw [HC0.out]; exact HZ.out), HC0.out]
        exact ⟨rfl, HB5.out⟩
    · have hge : ¬ (k : Int) < (l.length : Int) := by omega
      have HK := Aside0.mk (show k = l.length by omega)
      clear hlt
      go_wp2_with fail
      go_ret2
      have e := HE.out
      rw [HK.out, List.take_length] at e
      unfold RefNewPost
      rw [e, if_pos rfl]
      exact ⟨_, rfl, HG.out, Nat.le_refl _, HB.out⟩
end Go.Proofs.YtdahijckoblbgaaHVP
