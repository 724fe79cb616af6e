-- WRITTEN by wip/tools/hprint.py: the kit's print.py run over this translation, with functions proved by hand laid in. Lean checks it.
import Derived.Test.YtdlpoemjgeehgaaPG18x0
import Derived.Test.YtdlpoemjgeehgaaPG18x7
namespace Go.Proofs.Ytdlpoemjgeehgaa.PG18
open Go.RowKit Go.Proofs.YtdlpoemjgeehgaaW.PrintWords Go.Proofs.YtdlpoemjgeehgaaW.PrintLast Go.Proofs.YtdlpoemjgeehgaaW.PrintMore Go.Proofs.YtdlpoemjgeehgaaHW
attribute [local go_sem] max2_int min2_int max_two min_two max_three min_three max_four min_four   -- for this text's walks alone
set_option linter.unusedVariables false
set_option linter.unusedSimpArgs false

/-! ### pap_texts: function 69 -/
theorem pap_texts.info : (Try.prog.info? 9).map (fun i => (i.zero, i.size, i.bytes)) = some (some (.string ⟨#[]⟩), 1, 16) := by kernel_rfl
def pap_texts.Ok (g h i : Nat) (k : Nat) : Prop := k ≠ g ∧ k ≠ h ∧ k ≠ i
def pap_texts.Inv (B g h i : Nat) (w0 w : World) (s : ByteArray) (v : Value) (l : List ByteArray) (e : Int) : Prop :=
  w.heap[g]? = some (.cells #[.string s] 9 (0, 0)) ∧ w.heap[h]? = some (.cells #[v] 89 (0, 0)) ∧ w.heap[i]? = some (.cells #[.int .i64 e] 26 (0, 0)) ∧ Kd.R Kd.string 9 w B (pap_texts.Ok g h i) v l ∧ Below B w0 w ∧ g < w.heap.size ∧ h < w.heap.size ∧ i < w.heap.size
def pap_texts.Post (B g h i : Nat) (w0 : World) (s : ByteArray) (l : List ByteArray) (r : Int) (e' : Ending) (w' : World) : Prop := e' = .returned (.bool (r == 0)) ∧ ∃ v', pap_texts.Inv B g h i w0 w' s v' l r
set_option maxRecDepth 100000 in
set_option maxHeartbeats 1000000 in
theorem pap_texts1.calls (B g h i : Nat) (w0 w : World) (s : ByteArray) (v : Value) (l : List ByteArray) (e0 : Int) (t rest : ByteArray) (e : Int) (hgh : g ≠ h) (hgi : g ≠ i) (hhi : h ≠ i) (hBg : B ≤ g) (hBh : B ≤ h) (hBi : B ≤ i) (hl : l.length < 1000) (hr : octet_Read8.f s = some (t, rest, e)) (hi : pap_texts.Inv B g h i w0 w s v l e0) :
    Calls Try.prog 93 #[.pointer (some ⟨g, 0, none⟩), .pointer (some ⟨h, 0, none⟩), .pointer (some ⟨i, 0, none⟩)] w (pap_texts.Post B g h i w0 rest (l ++ [t]) e) := by
  have hc := blk_cell hi.1 0
  have hd := blk_cell hi.2.1 0
  simp only [List.getElem?_toArray, List.getElem?_cons_zero] at hc hd
  have HI := Aside0.mk hi
  have HR := Aside0.mk hr
  clear hi hr
  go_enter Try.func93, Try.ntmps93
  go_wp2_with (first | (go_at_call 84; (with_reducible refine (octet_Read8.calls _ _ _ _ _ HR.out).mono ?_); rintro e w1 ⟨rfl, ⟨nd, rfl⟩⟩) | (at_builtin; go_must (refine Kd.R_append Kd.string (w0 := w0) B rfl (.tmp 13) (.tmp 15) 89 9 (.string ⟨#[]⟩) 16 rfl Try.underlying89 pap_texts.info rfl (by decide) (by omega) v l t [.string t] (pap_texts.Ok g h i) (fun _ => False) rfl rfl ?aP (fun _ hk => hk.elim) ?aF ?aO ?aB ?aS ?aL ?_); (case aP => rfl); (case aF => intro k hk; have h5 := HI.out.2.2.2.2.2.1; have h6 := HI.out.2.2.2.2.2.2.1; have h7 := HI.out.2.2.2.2.2.2.2; exact ⟨by intro h; subst h; exact absurd hk (by simpa using h5), by intro h; subst h; exact absurd hk (by simpa using h6), by intro h; subst h; exact absurd hk (by simpa using h7)⟩); (case aO => exact Kd.R_drewN HI.out.2.2.2.1 _); (case aB => exact pw_below_drewN HI.out.2.2.2.2.1 _); (case aS => have h5 := HI.out.2.2.2.2.2.1; simp; omega); (case aL => omega); go_must (intro v1 w1 ho hb hgr hat; have BG := blk_grown (blk_drewN HI.out.1 nd) hgr (fun hk => (HI.out.2.2.2.1.1 g hk.symm).1 rfl); have BH := blk_grown (blk_drewN HI.out.2.1 nd) hgr (fun hk => (HI.out.2.2.2.1.1 h hk.symm).2.1 rfl); have BI := blk_grown (blk_drewN HI.out.2.2.1 nd) hgr (fun hk => (HI.out.2.2.2.1.1 i hk.symm).2.2 rfl); have cg := blk_cell BG 0; have ch := blk_cell BH 0; have ci := blk_cell BI 0; simp only [List.getElem?_toArray, List.getElem?_cons_zero] at cg ch ci; have fg := blk_frozen BG 0; have fh := blk_frozen BH 0; have fi := blk_frozen BI 0; obtain ⟨A1, c1, rfl, hc1, -⟩ := Kd.R_reads ho; rw [List.length_append, List.length_singleton] at ho ⊢; replace BG := Aside0.mk BG; replace BH := Aside0.mk BH; replace BI := Aside0.mk BI; have HO := Aside0.mk ho; replace hb := Aside0.mk hb; clear ho hgr hat hc1)))
  go_ret
  refine ⟨rfl, _, ?_, ?_, ?_, Kd.R_far (Kd.R_far (Kd.R_far HO.out (p := ⟨h, 0, none⟩) (fun k hk => hk.2.1) _) (p := ⟨g, 0, none⟩) (fun k hk => hk.1) _) (p := ⟨i, 0, none⟩) (fun k hk => hk.2.2) _, ((hb.out.setCell hBh _).setCell hBg _).setCell hBi _, ?_, ?_, ?_⟩
  · exact blk_far (blk_set (blk_far BG.out (p := ⟨h, 0, none⟩) hgh _) 0 _) (p := ⟨i, 0, none⟩) hgi _
  · exact blk_far (blk_far (blk_set BH.out 0 _) (p := ⟨g, 0, none⟩) (Ne.symm hgh) _) (p := ⟨i, 0, none⟩) hhi _
  · exact blk_set (blk_far (blk_far BI.out (p := ⟨h, 0, none⟩) (Ne.symm hhi) _) (p := ⟨g, 0, none⟩) (Ne.symm hgi) _) 0 _
  · have := blk_lt BG.out; simpa [World.setCell] using this
  · have := blk_lt BH.out; simpa [World.setCell] using this
  · have := blk_lt BI.out; simpa [World.setCell] using this
def pap_texts.f (a0 : ByteArray) (a1 : Int) : Option (List ByteArray × Int) :=
  if a1 = 1 then (octet_Read8.f a0).bind fun x => if x.2.2 = 0 then (if x.2.1.toList = ([] : List UInt8) then some ([x.1], 0) else some ([⟨#[]⟩], 7)) else some ([⟨#[]⟩], x.2.2)
  else if a1 = 2 then (octet_Read8.f a0).bind fun x => if x.2.2 = 0 then ((octet_Read8.f x.2.1).bind fun y => if y.2.2 = 0 then (if y.2.1.toList = ([] : List UInt8) then some ([x.1, y.1], 0) else some ([⟨#[]⟩, ⟨#[]⟩], 7)) else some ([⟨#[]⟩, ⟨#[]⟩], y.2.2)) else some ([⟨#[]⟩, ⟨#[]⟩], x.2.2)
  else none
def pap_texts.Res (w : World) (r1 : List ByteArray) (r2 : Int) (e : Ending) (w' : World) : Prop := ∃ v0_ : Value, e = .returned (.tuple #[v0_, .int .i64 r2]) ∧ Kd.R Kd.string 9 w' w.heap.size (fun _ => True) v0_ r1 ∧ Below w.heap.size w w'
theorem pap_texts.start (w : World) (a0 : ByteArray) : pap_texts.Inv w.heap.size w.heap.size (w.heap.size + 1) (w.heap.size + 1 + 1) w (((w.alloc (.cells #[.string a0] 9)).alloc (.cells #[.slice none 0 0] 89)).alloc (.cells #[.int .i64 0] 26)) a0 (.slice none 0 0) [] 0 :=
  ⟨blk_alloc (blk_alloc (blk_new w _) _) _, blk_alloc (hw_at (by simp) _) _, hw_at (by simp) _, Kd.R_nil _ _ _ _ _, below_alloc (below_alloc (below_alloc (Below.refl _ _) _) _) _, by simp; omega, by simp, by simp⟩
theorem pap_texts.reps (size : Nat) (R : ByteArray → List Value → Prop) (n : Nat) (h1 : size = 1) (h2 : R ⟨#[]⟩ [.string ⟨#[]⟩]) : Reps R size (List.replicate n ⟨#[]⟩) (List.replicate n (.string ⟨#[]⟩)) := by
  subst h1
  refine ⟨by simp, fun j p hj => ?_⟩
  have hj' : j < n := by
    have := (List.getElem?_eq_some_iff.mp hj).1
    simpa using this
  have hp : p = ⟨#[]⟩ := by
    have := List.mem_of_getElem? hj
    exact (List.mem_replicate.mp this).2
  subst hp
  have : ((List.replicate n (Value.string ⟨#[]⟩)).drop (j * 1)).take 1 = [.string ⟨#[]⟩] := by
    rw [List.drop_replicate, List.take_replicate, Nat.min_eq_left (by omega)]
    rfl
  rw [this]
  exact h2
theorem pap_texts.fin (w w1 : World) (s : ByteArray) (v : Value) (l : List ByteArray) (e : Int) (hi : pap_texts.Inv w.heap.size w.heap.size (w.heap.size + 1) (w.heap.size + 1 + 1) w w1 s v l e) (n : Nat) (hn : n ≤ 100) (cs : Array Value) (hcs : cs = (List.replicate n (Value.string ⟨#[]⟩)).toArray) (r : Int) (W : World)
    (hW : W = ((w1.setCell ⟨w.heap.size + 1, 0, none⟩ (.slice (some ⟨w1.heap.size, 0, none⟩) n n)).setCell ⟨w.heap.size + 1 + 1, 0, none⟩ (.int .i64 r)).alloc (.cells cs 9)) :
    W.cell? ⟨w.heap.size + 1, 0, none⟩ = some (.slice (some ⟨w1.heap.size, 0, none⟩) n n) ∧ W.cell? ⟨w.heap.size + 1 + 1, 0, none⟩ = some (.int .i64 r) ∧ Kd.R Kd.string 9 W w.heap.size (fun _ => True) (.slice (some ⟨w1.heap.size, 0, none⟩) n n) (List.replicate n ⟨#[]⟩) ∧ Below w.heap.size w W := by
  subst hW hcs
  have h8 := hi.2.2.2.2.2.2.2
  have eh := blk_cell (blk_alloc (blk_far (blk_set hi.2.1 0 (.slice (some ⟨w1.heap.size, 0, none⟩) n n)) (p := ⟨w.heap.size + 1 + 1, 0, none⟩) (by simp) (.int .i64 r)) (.cells (List.replicate n (Value.string ⟨#[]⟩)).toArray 9)) 0
  have ei := blk_cell (blk_alloc (blk_set (blk_far hi.2.2.1 (p := ⟨w.heap.size + 1, 0, none⟩) (by simp) (.slice (some ⟨w1.heap.size, 0, none⟩) n n)) 0 (.int .i64 r)) (.cells (List.replicate n (Value.string ⟨#[]⟩)).toArray 9)) 0
  have bz := blk_new ((w1.setCell ⟨w.heap.size + 1, 0, none⟩ (.slice (some ⟨w1.heap.size, 0, none⟩) n n)).setCell ⟨w.heap.size + 1 + 1, 0, none⟩ (.int .i64 r)) (.cells (List.replicate n (Value.string ⟨#[]⟩)).toArray 9)
  have e0 : ((w1.setCell ⟨w.heap.size + 1, 0, none⟩ (.slice (some ⟨w1.heap.size, 0, none⟩) n n)).setCell ⟨w.heap.size + 1 + 1, 0, none⟩ (.int .i64 r)).heap.size = w1.heap.size := by simp [World.setCell]
  rw [e0] at bz
  refine ⟨eh.trans rfl, ei.trans rfl, ⟨fun _ _ => trivial, List.replicate n (.string ⟨#[]⟩), ?_, ?_⟩, below_alloc ((hi.2.2.2.2.1.setCell (by simp) _).setCell (by simp; omega) _) _⟩
  · refine ⟨by show _ = _ * 1; simp, .inr ⟨_, n, _, by rw [List.length_replicate], by omega, bz, by simp, by unfold maxLen; omega, by show _ = _ * 1; simp, ?_⟩⟩
    show List.take (_ * 1) _ = _
    simp
  · exact pap_texts.reps _ _ n rfl rfl
set_option maxRecDepth 100000 in
set_option maxHeartbeats 1000000 in
theorem pap_texts.one (a0 : ByteArray) (r1 : List ByteArray) (r2 : Int) (w : World) (h : pap_texts.f a0 1 = some (r1, r2)) :
    Calls Try.prog 69 #[.string a0, .int .i64 1] w (pap_texts.Res w r1 r2) := by
  unfold pap_texts.f at h
  rw [if_pos rfl] at h
  have hmk : ∀ w, (Instr.makeSlice 89 (.int .i64 1) (.int .i64 1)).run Try.prog w = .ok (.slice (some ⟨w.heap.size, 0, none⟩) 1 1) (w.alloc (.cells #[.string ⟨#[]⟩] 9)) := fun _ => by kernel_rfl
  replace h := Option.bind_eq_some_iff.mp h
  obtain ⟨⟨t1, rest1, f1⟩, hr, h⟩ := h
  have HR1 := Aside0.mk hr
  simp only at h
  clear hr
  by_cases hf : f1 = 0
  · subst hf
    rw [if_pos rfl] at h
    by_cases hq : rest1.toList = ([] : List UInt8)
    · rw [if_pos hq] at h
      simp only [Option.some.injEq, Prod.mk.injEq] at h
      obtain ⟨rfl, rfl⟩ := h
      have hq1 : (rest1.toList == ([] : List UInt8)) = true := beq_iff_eq.mpr hq
      have hq2 : (rest1.toList != ([] : List UInt8)) = false := bne_eq_false_iff_eq.mpr hq
      clear hq
      go_enter Try.func69, Try.ntmps69
      go_wp2_with fail
      refine wp_loop_rounds 2 ?_
      rw [rounds_succ]
      go_wp2_with (go_at_call 93; go_must (refine (pap_texts1.calls w.heap.size w.heap.size (w.heap.size + 1) (w.heap.size + 1 + 1) w _ _ (.slice none 0 0) [] 0 t1 rest1 0 (by omega) (by omega) (by omega) (by omega) (by omega) (by omega) (by simp) HR1.out (pap_texts.start w a0)).mono ?_); go_must (rintro e1 w1 ⟨rfl, v1, hi1⟩; have cs := blk_cell hi1.1 0; have cl := blk_cell hi1.2.1 0; have ce := blk_cell hi1.2.2.1 0; have fl := blk_frozen hi1.2.1 0; have fe := blk_frozen hi1.2.2.1 0; have z2 := hi1.2.2.2.2.2.2.1; have z3 := hi1.2.2.2.2.2.2.2; simp only [List.getElem?_toArray, List.getElem?_cons_zero] at cs cl ce; obtain ⟨A1, c1, rfl, hc1, -⟩ := Kd.R_reads hi1.2.2.2.1; replace hi1 := Aside0.mk hi1; clear hc1))
      rw [rounds_succ]
      go_wp2_with fail
      have eh := blk_cell (blk_far (blk_set hi1.out.2.1 0 (.slice A1 ([] ++ [t1]).length c1)) (p := ⟨w.heap.size + 1 + 1, 0, none⟩) (by simp) (.int .i64 0)) 0
      have ei := blk_cell (blk_set (blk_far hi1.out.2.2.1 (p := ⟨w.heap.size + 1, 0, none⟩) (by simp) (.slice A1 ([] ++ [t1]).length c1)) 0 (.int .i64 0)) 0
      simp only [List.setIfInBounds_toArray, List.set_cons_zero, List.getElem?_toArray, List.getElem?_cons_zero, List.nil_append, List.cons_append, List.length_cons, List.length_nil, Nat.zero_add, Nat.reduceAdd] at eh ei
      refine bodyPost_ret (v := .tuple #[(.slice A1 ([] ++ [t1]).length c1), .int .i64 0]) (by simp [results, Try.results69, go_sem, eh, ei]) rfl ⟨_, rfl, Kd.R_mono (Kd.R_far (Kd.R_far hi1.out.2.2.2.1 (p := ⟨w.heap.size + 1, 0, none⟩) (fun k hk => hk.2.1) _) (p := ⟨w.heap.size + 1 + 1, 0, none⟩) (fun k hk => hk.2.2) _) (fun _ _ => trivial), (hi1.out.2.2.2.2.1.setCell (by simp) _).setCell (by simp; omega) _⟩
    · rw [if_neg hq] at h
      simp only [Option.some.injEq, Prod.mk.injEq] at h
      obtain ⟨rfl, rfl⟩ := h
      have hq1 : (rest1.toList == ([] : List UInt8)) = false := beq_eq_false_iff_ne.mpr hq
      have hq2 : (rest1.toList != ([] : List UInt8)) = true := bne_iff_ne.mpr hq
      clear hq
      go_enter Try.func69, Try.ntmps69
      go_wp2_with fail
      refine wp_loop_rounds 2 ?_
      rw [rounds_succ]
      go_wp2_with (go_at_call 93; go_must (refine (pap_texts1.calls w.heap.size w.heap.size (w.heap.size + 1) (w.heap.size + 1 + 1) w _ _ (.slice none 0 0) [] 0 t1 rest1 0 (by omega) (by omega) (by omega) (by omega) (by omega) (by omega) (by simp) HR1.out (pap_texts.start w a0)).mono ?_); go_must (rintro e1 w1 ⟨rfl, v1, hi1⟩; have cs := blk_cell hi1.1 0; have cl := blk_cell hi1.2.1 0; have ce := blk_cell hi1.2.2.1 0; have fl := blk_frozen hi1.2.1 0; have fe := blk_frozen hi1.2.2.1 0; have z2 := hi1.2.2.2.2.2.2.1; have z3 := hi1.2.2.2.2.2.2.2; simp only [List.getElem?_toArray, List.getElem?_cons_zero] at cs cl ce; obtain ⟨A1, c1, rfl, hc1, -⟩ := Kd.R_reads hi1.2.2.2.1; replace hi1 := Aside0.mk hi1; clear hc1))
      rw [rounds_succ]
      go_wp2_with fail
      obtain ⟨q1, q2, q3, q4⟩ := pap_texts.fin w w1 _ _ _ _ hi1.out 1 (by decide) #[.string ⟨#[]⟩] rfl 7 _ rfl
      exact bodyPost_ret (v := .tuple #[.slice (some ⟨w1.heap.size, 0, none⟩) 1 1, .int .i64 7]) (by simp [results, Try.results69, go_sem, q1, q2]) rfl ⟨_, rfl, q3, q4⟩
  · rw [if_neg hf] at h
    simp only [Option.some.injEq, Prod.mk.injEq] at h
    obtain ⟨rfl, rfl⟩ := h
    have hf1 : (f1 == 0) = false := by simpa using hf
    clear hf
    go_enter Try.func69, Try.ntmps69
    go_wp2_with fail
    refine wp_loop_rounds 2 ?_
    rw [rounds_succ]
    go_wp2_with (go_at_call 93; go_must (refine (pap_texts1.calls w.heap.size w.heap.size (w.heap.size + 1) (w.heap.size + 1 + 1) w _ _ (.slice none 0 0) [] 0 t1 rest1 f1 (by omega) (by omega) (by omega) (by omega) (by omega) (by omega) (by simp) HR1.out (pap_texts.start w a0)).mono ?_); go_must (rintro e1 w1 ⟨rfl, v1, hi1⟩; have cs := blk_cell hi1.1 0; have cl := blk_cell hi1.2.1 0; have ce := blk_cell hi1.2.2.1 0; have fl := blk_frozen hi1.2.1 0; have fe := blk_frozen hi1.2.2.1 0; have z2 := hi1.2.2.2.2.2.2.1; have z3 := hi1.2.2.2.2.2.2.2; simp only [List.getElem?_toArray, List.getElem?_cons_zero] at cs cl ce; obtain ⟨A1, c1, rfl, hc1, -⟩ := Kd.R_reads hi1.2.2.2.1; replace hi1 := Aside0.mk hi1; clear hc1))
    go_region
    all_goals
      go_wp2
      obtain ⟨q1, q2, q3, q4⟩ := pap_texts.fin w w1 _ _ _ _ hi1.out 1 (by decide) #[.string ⟨#[]⟩] rfl f1 _ rfl
      exact bodyPost_ret (v := .tuple #[.slice (some ⟨w1.heap.size, 0, none⟩) 1 1, .int .i64 f1]) (by simp [results, Try.results69, go_sem, q1, q2]) rfl ⟨_, rfl, Kd.R_drew q3, below_drew q4⟩
set_option maxRecDepth 100000 in
set_option maxHeartbeats 1000000 in
theorem pap_texts.two (a0 : ByteArray) (r1 : List ByteArray) (r2 : Int) (w : World) (h : pap_texts.f a0 2 = some (r1, r2)) :
    Calls Try.prog 69 #[.string a0, .int .i64 2] w (pap_texts.Res w r1 r2) := by
  unfold pap_texts.f at h
  rw [if_neg (by decide), if_pos rfl] at h
  have hmk : ∀ w, (Instr.makeSlice 89 (.int .i64 2) (.int .i64 2)).run Try.prog w = .ok (.slice (some ⟨w.heap.size, 0, none⟩) 2 2) (w.alloc (.cells #[.string ⟨#[]⟩, .string ⟨#[]⟩] 9)) := fun _ => by kernel_rfl
  replace h := Option.bind_eq_some_iff.mp h
  obtain ⟨⟨t1, rest1, f1⟩, hr, h⟩ := h
  have HR1 := Aside0.mk hr
  simp only at h
  clear hr
  by_cases hf : f1 = 0
  · subst hf
    rw [if_pos rfl] at h
    replace h := Option.bind_eq_some_iff.mp h
    obtain ⟨⟨t2, rest2, f2⟩, hr, h⟩ := h
    have HR2 := Aside0.mk hr
    simp only at h
    clear hr
    by_cases hf : f2 = 0
    · subst hf
      rw [if_pos rfl] at h
      by_cases hq : rest2.toList = ([] : List UInt8)
      · rw [if_pos hq] at h
        simp only [Option.some.injEq, Prod.mk.injEq] at h
        obtain ⟨rfl, rfl⟩ := h
        have hq1 : (rest2.toList == ([] : List UInt8)) = true := beq_iff_eq.mpr hq
        have hq2 : (rest2.toList != ([] : List UInt8)) = false := bne_eq_false_iff_eq.mpr hq
        clear hq
        go_enter Try.func69, Try.ntmps69
        go_wp2_with fail
        refine wp_loop_rounds 3 ?_
        rw [rounds_succ]
        go_wp2_with (go_at_call 93; go_must (refine (pap_texts1.calls w.heap.size w.heap.size (w.heap.size + 1) (w.heap.size + 1 + 1) w _ _ (.slice none 0 0) [] 0 t1 rest1 0 (by omega) (by omega) (by omega) (by omega) (by omega) (by omega) (by simp) HR1.out (pap_texts.start w a0)).mono ?_); go_must (rintro e1 w1 ⟨rfl, v1, hi1⟩; have cs := blk_cell hi1.1 0; have cl := blk_cell hi1.2.1 0; have ce := blk_cell hi1.2.2.1 0; have fl := blk_frozen hi1.2.1 0; have fe := blk_frozen hi1.2.2.1 0; have z2 := hi1.2.2.2.2.2.2.1; have z3 := hi1.2.2.2.2.2.2.2; simp only [List.getElem?_toArray, List.getElem?_cons_zero] at cs cl ce; obtain ⟨A1, c1, rfl, hc1, -⟩ := Kd.R_reads hi1.2.2.2.1; replace hi1 := Aside0.mk hi1; clear hc1))
        rw [rounds_succ]
        go_wp2_with (go_at_call 93; go_must (refine (pap_texts1.calls w.heap.size w.heap.size (w.heap.size + 1) (w.heap.size + 1 + 1) w w1 _ _ ([] ++ [t1]) 0 t2 rest2 0 (by omega) (by omega) (by omega) (by omega) (by omega) (by omega) (by simp) HR2.out hi1.out).mono ?_); go_must (rintro e1 w2 ⟨rfl, v1, hi2⟩; have cs := blk_cell hi2.1 0; have cl := blk_cell hi2.2.1 0; have ce := blk_cell hi2.2.2.1 0; have fl := blk_frozen hi2.2.1 0; have fe := blk_frozen hi2.2.2.1 0; have z2 := hi2.2.2.2.2.2.2.1; have z3 := hi2.2.2.2.2.2.2.2; simp only [List.getElem?_toArray, List.getElem?_cons_zero] at cs cl ce; obtain ⟨A2, c2, rfl, hc1, -⟩ := Kd.R_reads hi2.2.2.2.1; replace hi2 := Aside0.mk hi2; clear hc1))
        rw [rounds_succ]
        go_wp2_with fail
        have eh := blk_cell (blk_far (blk_set hi2.out.2.1 0 (.slice A2 (([] ++ [t1]) ++ [t2]).length c2)) (p := ⟨w.heap.size + 1 + 1, 0, none⟩) (by simp) (.int .i64 0)) 0
        have ei := blk_cell (blk_set (blk_far hi2.out.2.2.1 (p := ⟨w.heap.size + 1, 0, none⟩) (by simp) (.slice A2 (([] ++ [t1]) ++ [t2]).length c2)) 0 (.int .i64 0)) 0
        simp only [List.setIfInBounds_toArray, List.set_cons_zero, List.getElem?_toArray, List.getElem?_cons_zero, List.nil_append, List.cons_append, List.length_cons, List.length_nil, Nat.zero_add, Nat.reduceAdd] at eh ei
        refine bodyPost_ret (v := .tuple #[(.slice A2 (([] ++ [t1]) ++ [t2]).length c2), .int .i64 0]) (by simp [results, Try.results69, go_sem, eh, ei]) rfl ⟨_, rfl, Kd.R_mono (Kd.R_far (Kd.R_far hi2.out.2.2.2.1 (p := ⟨w.heap.size + 1, 0, none⟩) (fun k hk => hk.2.1) _) (p := ⟨w.heap.size + 1 + 1, 0, none⟩) (fun k hk => hk.2.2) _) (fun _ _ => trivial), (hi2.out.2.2.2.2.1.setCell (by simp) _).setCell (by simp; omega) _⟩
      · rw [if_neg hq] at h
        simp only [Option.some.injEq, Prod.mk.injEq] at h
        obtain ⟨rfl, rfl⟩ := h
        have hq1 : (rest2.toList == ([] : List UInt8)) = false := beq_eq_false_iff_ne.mpr hq
        have hq2 : (rest2.toList != ([] : List UInt8)) = true := bne_iff_ne.mpr hq
        clear hq
        go_enter Try.func69, Try.ntmps69
        go_wp2_with fail
        refine wp_loop_rounds 3 ?_
        rw [rounds_succ]
        go_wp2_with (go_at_call 93; go_must (refine (pap_texts1.calls w.heap.size w.heap.size (w.heap.size + 1) (w.heap.size + 1 + 1) w _ _ (.slice none 0 0) [] 0 t1 rest1 0 (by omega) (by omega) (by omega) (by omega) (by omega) (by omega) (by simp) HR1.out (pap_texts.start w a0)).mono ?_); go_must (rintro e1 w1 ⟨rfl, v1, hi1⟩; have cs := blk_cell hi1.1 0; have cl := blk_cell hi1.2.1 0; have ce := blk_cell hi1.2.2.1 0; have fl := blk_frozen hi1.2.1 0; have fe := blk_frozen hi1.2.2.1 0; have z2 := hi1.2.2.2.2.2.2.1; have z3 := hi1.2.2.2.2.2.2.2; simp only [List.getElem?_toArray, List.getElem?_cons_zero] at cs cl ce; obtain ⟨A1, c1, rfl, hc1, -⟩ := Kd.R_reads hi1.2.2.2.1; replace hi1 := Aside0.mk hi1; clear hc1))
        rw [rounds_succ]
        go_wp2_with (go_at_call 93; go_must (refine (pap_texts1.calls w.heap.size w.heap.size (w.heap.size + 1) (w.heap.size + 1 + 1) w w1 _ _ ([] ++ [t1]) 0 t2 rest2 0 (by omega) (by omega) (by omega) (by omega) (by omega) (by omega) (by simp) HR2.out hi1.out).mono ?_); go_must (rintro e1 w2 ⟨rfl, v1, hi2⟩; have cs := blk_cell hi2.1 0; have cl := blk_cell hi2.2.1 0; have ce := blk_cell hi2.2.2.1 0; have fl := blk_frozen hi2.2.1 0; have fe := blk_frozen hi2.2.2.1 0; have z2 := hi2.2.2.2.2.2.2.1; have z3 := hi2.2.2.2.2.2.2.2; simp only [List.getElem?_toArray, List.getElem?_cons_zero] at cs cl ce; obtain ⟨A2, c2, rfl, hc1, -⟩ := Kd.R_reads hi2.2.2.2.1; replace hi2 := Aside0.mk hi2; clear hc1))
        rw [rounds_succ]
        go_wp2_with fail
        obtain ⟨q1, q2, q3, q4⟩ := pap_texts.fin w w2 _ _ _ _ hi2.out 2 (by decide) #[.string ⟨#[]⟩, .string ⟨#[]⟩] rfl 7 _ rfl
        exact bodyPost_ret (v := .tuple #[.slice (some ⟨w2.heap.size, 0, none⟩) 2 2, .int .i64 7]) (by simp [results, Try.results69, go_sem, q1, q2]) rfl ⟨_, rfl, q3, q4⟩
    · rw [if_neg hf] at h
      simp only [Option.some.injEq, Prod.mk.injEq] at h
      obtain ⟨rfl, rfl⟩ := h
      have hf1 : (f2 == 0) = false := by simpa using hf
      clear hf
      go_enter Try.func69, Try.ntmps69
      go_wp2_with fail
      refine wp_loop_rounds 3 ?_
      rw [rounds_succ]
      go_wp2_with (go_at_call 93; go_must (refine (pap_texts1.calls w.heap.size w.heap.size (w.heap.size + 1) (w.heap.size + 1 + 1) w _ _ (.slice none 0 0) [] 0 t1 rest1 0 (by omega) (by omega) (by omega) (by omega) (by omega) (by omega) (by simp) HR1.out (pap_texts.start w a0)).mono ?_); go_must (rintro e1 w1 ⟨rfl, v1, hi1⟩; have cs := blk_cell hi1.1 0; have cl := blk_cell hi1.2.1 0; have ce := blk_cell hi1.2.2.1 0; have fl := blk_frozen hi1.2.1 0; have fe := blk_frozen hi1.2.2.1 0; have z2 := hi1.2.2.2.2.2.2.1; have z3 := hi1.2.2.2.2.2.2.2; simp only [List.getElem?_toArray, List.getElem?_cons_zero] at cs cl ce; obtain ⟨A1, c1, rfl, hc1, -⟩ := Kd.R_reads hi1.2.2.2.1; replace hi1 := Aside0.mk hi1; clear hc1))
      rw [rounds_succ]
      go_wp2_with (go_at_call 93; go_must (refine (pap_texts1.calls w.heap.size w.heap.size (w.heap.size + 1) (w.heap.size + 1 + 1) w w1 _ _ ([] ++ [t1]) 0 t2 rest2 f2 (by omega) (by omega) (by omega) (by omega) (by omega) (by omega) (by simp) HR2.out hi1.out).mono ?_); go_must (rintro e1 w2 ⟨rfl, v1, hi2⟩; have cs := blk_cell hi2.1 0; have cl := blk_cell hi2.2.1 0; have ce := blk_cell hi2.2.2.1 0; have fl := blk_frozen hi2.2.1 0; have fe := blk_frozen hi2.2.2.1 0; have z2 := hi2.2.2.2.2.2.2.1; have z3 := hi2.2.2.2.2.2.2.2; simp only [List.getElem?_toArray, List.getElem?_cons_zero] at cs cl ce; obtain ⟨A2, c2, rfl, hc1, -⟩ := Kd.R_reads hi2.2.2.2.1; replace hi2 := Aside0.mk hi2; clear hc1))
      go_region
      all_goals
        go_wp2
        obtain ⟨q1, q2, q3, q4⟩ := pap_texts.fin w w2 _ _ _ _ hi2.out 2 (by decide) #[.string ⟨#[]⟩, .string ⟨#[]⟩] rfl f2 _ rfl
        exact bodyPost_ret (v := .tuple #[.slice (some ⟨w2.heap.size, 0, none⟩) 2 2, .int .i64 f2]) (by simp [results, Try.results69, go_sem, q1, q2]) rfl ⟨_, rfl, Kd.R_drew q3, below_drew q4⟩
  · rw [if_neg hf] at h
    simp only [Option.some.injEq, Prod.mk.injEq] at h
    obtain ⟨rfl, rfl⟩ := h
    have hf1 : (f1 == 0) = false := by simpa using hf
    clear hf
    go_enter Try.func69, Try.ntmps69
    go_wp2_with fail
    refine wp_loop_rounds 3 ?_
    rw [rounds_succ]
    go_wp2_with (go_at_call 93; go_must (refine (pap_texts1.calls w.heap.size w.heap.size (w.heap.size + 1) (w.heap.size + 1 + 1) w _ _ (.slice none 0 0) [] 0 t1 rest1 f1 (by omega) (by omega) (by omega) (by omega) (by omega) (by omega) (by simp) HR1.out (pap_texts.start w a0)).mono ?_); go_must (rintro e1 w1 ⟨rfl, v1, hi1⟩; have cs := blk_cell hi1.1 0; have cl := blk_cell hi1.2.1 0; have ce := blk_cell hi1.2.2.1 0; have fl := blk_frozen hi1.2.1 0; have fe := blk_frozen hi1.2.2.1 0; have z2 := hi1.2.2.2.2.2.2.1; have z3 := hi1.2.2.2.2.2.2.2; simp only [List.getElem?_toArray, List.getElem?_cons_zero] at cs cl ce; obtain ⟨A1, c1, rfl, hc1, -⟩ := Kd.R_reads hi1.2.2.2.1; replace hi1 := Aside0.mk hi1; clear hc1))
    go_region
    all_goals
      go_wp2
      obtain ⟨q1, q2, q3, q4⟩ := pap_texts.fin w w1 _ _ _ _ hi1.out 2 (by decide) #[.string ⟨#[]⟩, .string ⟨#[]⟩] rfl f1 _ rfl
      exact bodyPost_ret (v := .tuple #[.slice (some ⟨w1.heap.size, 0, none⟩) 2 2, .int .i64 f1]) (by simp [results, Try.results69, go_sem, q1, q2]) rfl ⟨_, rfl, Kd.R_drew q3, below_drew q4⟩
theorem pap_texts.calls (a0 : ByteArray) (a1 : Int) (r1 : List ByteArray) (r2 : Int) (w : World) (h : pap_texts.f a0 a1 = some (r1, r2)) :
    Calls Try.prog 69 #[.string a0, .int .i64 a1] w fun e w' => ∃ v0_, e = .returned (.tuple #[v0_, .int .i64 r2]) ∧ Kd.R Kd.string 9 w' w.heap.size (fun _ => True) v0_ r1 ∧ Below w.heap.size w w' := by
  by_cases h1 : a1 = 1
  · subst h1
    exact pap_texts.one a0 r1 r2 w h
  · by_cases h2 : a1 = 2
    · subst h2
      exact pap_texts.two a0 r1 r2 w h
    · unfold pap_texts.f at h
      rw [if_neg h1, if_neg h2] at h
      exact absurd h (by simp)


end Go.Proofs.Ytdlpoemjgeehgaa.PG18
