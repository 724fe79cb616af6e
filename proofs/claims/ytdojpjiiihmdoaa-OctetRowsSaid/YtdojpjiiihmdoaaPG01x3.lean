-- WRITTEN by wip/tools/hprint.py: the kit's print.py run over this translation, with functions proved by hand laid in. Lean checks it.
import Derived.Test.YtdojpjiiihmdoaaPG01x0
import Derived.Test.YtdojpjiiihmdoaaPG01x4
namespace Go.Proofs.Ytdojpjiiihmdoaa.PG01
open Go.RowKit Go.Proofs.YtdojpjiiihmdoaaW.PrintWords Go.Proofs.YtdojpjiiihmdoaaW.PrintLast Go.Proofs.YtdojpjiiihmdoaaW.PrintMore Go.Proofs.YtdojpjiiihmdoaaHW
attribute [local go_sem] max2_int min2_int max_two min_two max_three min_three max_four min_four   -- for this text's walks alone
set_option linter.unusedVariables false
set_option linter.unusedSimpArgs false

/-! ### octet_Split8: function 53 -/
theorem octet_Split8.info : (Try.prog.info? 9).map (fun i => (i.zero, i.size, i.bytes)) = some (some (.string ⟨#[]⟩), 1, 16) := by kernel_rfl
def octet_Split8.Ok (g h : Nat) (k : Nat) : Prop := k ≠ g ∧ k ≠ h
def octet_Split8.Inv (B g h : Nat) (w0 w : World) (s : ByteArray) (v : Value) (l : List ByteArray) : Prop :=
  w.heap[g]? = some (.cells #[.string s] 9 (0, 0)) ∧ w.heap[h]? = some (.cells #[v] 79 (0, 0)) ∧ Kd.R Kd.string 9 w B (octet_Split8.Ok g h) v l ∧ Below B w0 w ∧ g < w.heap.size ∧ h < w.heap.size
def octet_Split8.Post (B g h : Nat) (w0 : World) (s : ByteArray) (l : List ByteArray) (r : Int) (e' : Ending) (w' : World) : Prop := e' = .returned (.int .i64 r) ∧ ∃ v', octet_Split8.Inv B g h w0 w' s v' l
theorem octet_Split8.Inv.grown {B g h : Nat} {w0 w w1 : World} {s : ByteArray} {v : Value} {l : List ByteArray} (hi : octet_Split8.Inv B g h w0 w s v l) (hd : Drawn0 w w1) : octet_Split8.Inv B g h w0 w1 s v l := by
  obtain ⟨n, rfl⟩ := hd
  obtain ⟨h1, h2, h3, h4, h5, h6⟩ := hi
  exact ⟨h1, h2, Kd.R_drewN h3 n, pw_below_drewN h4 n, h5, h6⟩
set_option maxRecDepth 100000 in
set_option maxHeartbeats 1000000 in
theorem octet_Split81.bad (B g h : Nat) (w0 w : World) (s : ByteArray) (v : Value) (l : List ByteArray) (t rest : ByteArray) (e : Int) (he : e ≠ 0) (hr : octet_Read8.f s = some (t, rest, e)) (hi : octet_Split8.Inv B g h w0 w s v l) :
    Calls Try.prog 69 #[.pointer (some ⟨g, 0, none⟩), .pointer (some ⟨h, 0, none⟩)] w (octet_Split8.Post B g h w0 s l e) := by
  have hc := blk_cell hi.1 0
  simp only [List.getElem?_toArray, List.getElem?_cons_zero] at hc
  have HI := Aside0.mk hi
  have HR := Aside0.mk hr
  have he1 : (e == 0) = false := by simpa using he
  clear hi hr he
  go_enter Try.func69, Try.ntmps69
  go_wp2_with (go_at_call 55; (with_reducible refine (octet_Read8.calls _ _ _ _ _ HR.out).mono ?_); rintro e w1 ⟨rfl, ⟨nd, rfl⟩⟩)
  go_ret
  exact ⟨rfl, v, HI.out.grown ⟨_, rfl⟩⟩
set_option maxRecDepth 100000 in
set_option maxHeartbeats 1000000 in
theorem octet_Split81.good (B g h : Nat) (w0 w : World) (s : ByteArray) (v : Value) (l : List ByteArray) (t rest : ByteArray) (hgh : g ≠ h) (hBg : B ≤ g) (hBh : B ≤ h) (hl : l.length < 8796093022208) (hr : octet_Read8.f s = some (t, rest, 0)) (hi : octet_Split8.Inv B g h w0 w s v l) :
    Calls Try.prog 69 #[.pointer (some ⟨g, 0, none⟩), .pointer (some ⟨h, 0, none⟩)] w (octet_Split8.Post B g h w0 rest (l ++ [t]) 0) := by
  have hc := blk_cell hi.1 0
  have hd := blk_cell hi.2.1 0
  simp only [List.getElem?_toArray, List.getElem?_cons_zero] at hc hd
  have HI := Aside0.mk hi
  have HR := Aside0.mk hr
  clear hi hr
  go_enter Try.func69, Try.ntmps69
  go_wp2_with (first | (go_at_call 55; (with_reducible refine (octet_Read8.calls _ _ _ _ _ HR.out).mono ?_); rintro e w1 ⟨rfl, ⟨nd, rfl⟩⟩) | (at_builtin; go_must (refine Kd.R_append Kd.string (w0 := w0) B rfl (.tmp 14) (.tmp 16) 79 9 (.string ⟨#[]⟩) 16 rfl Try.underlying79 octet_Split8.info rfl (by decide) (by omega) v l t [.string t] (octet_Split8.Ok g h) (fun _ => False) rfl rfl ?aP (fun _ hk => hk.elim) ?aF ?aO ?aB ?aS ?aL ?_); (case aP => rfl); (case aF => intro k hk; have h5 := HI.out.2.2.2.2.1; have h6 := HI.out.2.2.2.2.2; exact ⟨by intro h; subst h; exact absurd hk (by simpa using h5), by intro h; subst h; exact absurd hk (by simpa using h6)⟩); (case aO => exact Kd.R_drewN HI.out.2.2.1 _); (case aB => exact pw_below_drewN HI.out.2.2.2.1 _); (case aS => have h5 := HI.out.2.2.2.2.1; simp; omega); (case aL => omega); intro v1 w1 ho hb hgr hat; have BG := blk_grown (blk_drewN HI.out.1 nd) hgr (fun hk => (HI.out.2.2.1.1 g hk.symm).1 rfl); have BH := blk_grown (blk_drewN HI.out.2.1 nd) hgr (fun hk => (HI.out.2.2.1.1 h hk.symm).2 rfl); have cg := blk_cell BG 0; have ch := blk_cell BH 0; simp only [List.getElem?_toArray, List.getElem?_cons_zero] at cg ch; have fg := blk_frozen BG 0; have fh := blk_frozen BH 0; obtain ⟨A1, c1, rfl, hc1, -⟩ := Kd.R_reads ho; rw [List.length_append, List.length_singleton] at ho ⊢; replace BG := Aside0.mk BG; replace BH := Aside0.mk BH; have HO := Aside0.mk ho; replace hb := Aside0.mk hb; clear ho hgr hat hc1))
  go_ret
  refine ⟨rfl, _, ?_, ?_, Kd.R_far (Kd.R_far HO.out (p := ⟨h, 0, none⟩) (fun k hk => hk.2) _) (p := ⟨g, 0, none⟩) (fun k hk => hk.1) _, (hb.out.setCell hBh _).setCell hBg _, ?_, ?_⟩
  · exact blk_set (blk_far BG.out (p := ⟨h, 0, none⟩) hgh _) 0 _
  · exact blk_far (blk_set BH.out 0 _) (p := ⟨g, 0, none⟩) (Ne.symm hgh) _
  · have := blk_lt BG.out; simpa [World.setCell] using this
  · have := blk_lt BH.out; simpa [World.setCell] using this
def octet_Split8.l0 : Nat → ByteArray → List ByteArray → Option (List ByteArray × Int)
  | 0, _, _ => none
  | k + 1, s, l => if s.toList = ([] : List UInt8) then some (l, 0) else (octet_Read8.f s).bind fun x => if x.2.2 = 0 then (if l.length < 8796093022208 then octet_Split8.l0 k x.2.1 (l ++ [x.1]) else none) else some ([], x.2.2)
def octet_Split8.f (k : Nat) (a0 : ByteArray) : Option (List ByteArray × Int) := octet_Split8.l0 k a0 []
theorem octet_Split8.mono_l : ∀ k, (∀ y0 y1, LeO (octet_Split8.l0 k y0 y1) (octet_Split8.l0 (k + 1) y0 y1))
  | 0 => fun _ _ r h => by simp [octet_Split8.l0] at h
  | k + 1 => by
    have ih0 := octet_Split8.mono_l k
    intro y0 y1
    unfold octet_Split8.l0
    repeat' first
      | (with_reducible exact ih0 _ _)
      | (with_reducible exact LeO.refl _)
      | (with_reducible exact LeO.none _)
      | (with_reducible refine LeO.ite ?_ ?_)
      | (with_reducible refine LeO.bind ?_ (fun _ => ?_))
      | exact ih0 _ _
      | exact LeO.none _
      | refine LeO.ite ?_ ?_
      | refine LeO.bind ?_ (fun _ => ?_)
theorem octet_Split8.mono : ∀ a0 k, LeO (octet_Split8.f k a0) (octet_Split8.f (k + 1) a0) := fun a0 k => octet_Split8.mono_l k a0 []
set_option maxRecDepth 100000 in
set_option maxHeartbeats 1000000 in
theorem octet_Split8.calls (k : Nat) (a0 : ByteArray) (r1 : List ByteArray) (r2 : Int) (w : World) (h : octet_Split8.f k a0 = some (r1, r2)) :
    Calls Try.prog 53 #[.string a0] w fun e w' => ∃ v0_ : Value, e = .returned (.tuple #[v0_, .int .i64 r2]) ∧ Kd.R Kd.string 9 w' w.heap.size (fun _ => True) v0_ r1 ∧ Below w.heap.size w w' := by
  have H := Aside0.mk (show octet_Split8.l0 k a0 [] = some (r1, r2) from h)
  clear h
  go_enter Try.func53, Try.ntmps53
  go_wp2_with fail
  go_loopg [5] k (fun kq v5 w' => ∃ (s : ByteArray) (v : Value) (l : List ByteArray) (u5 : Value), v5 = u5 ∧ Aside0 (octet_Split8.l0 kq s l = some (r1, r2)) ∧ Aside0 (kq ≤ k) ∧ Aside0 (octet_Split8.Inv w.heap.size w.heap.size (w.heap.size + 1) w w' s v l))
  case atStart => exact ⟨a0, _, [], _, rfl, H, ⟨Nat.le_refl _⟩, ⟨blk_alloc (blk_new w _) _, hw_at (by simp) _, Kd.R_nil _ _ _ _ _, below_alloc (below_alloc (Below.refl _ _) _) _, by simp; omega, by simp⟩⟩
  case round =>
    clear H
    obtain ⟨s, v, l, u5, rfl, HA, HK, HI⟩ := hrel
    cases gk with
    | zero => exact absurd HA.out (by simp [octet_Split8.l0])
    | succ k1 =>
      have H := HA.out
      clear HA
      simp only [octet_Split8.l0] at H
      have hc := blk_cell HI.out.1 0
      have hd := blk_cell HI.out.2.1 0
      have fd := blk_frozen HI.out.2.1 0
      simp only [List.getElem?_toArray, List.getElem?_cons_zero] at hc hd
      by_cases c2 : s.toList = ([] : List UInt8)
      · rw [if_pos c2] at H
        have c2b0 : (s.toList == ([] : List UInt8)) = true := beq_iff_eq.mpr c2
        have c2b1 : (s.toList != ([] : List UInt8)) = false := bne_eq_false_iff_eq.mpr c2
        clear c2
        simp only [Option.some.injEq, Prod.mk.injEq] at H
        obtain ⟨rfl, rfl⟩ := H
        obtain ⟨A1, c1, rfl, hc1, -⟩ := Kd.R_reads HI.out.2.2.1
        go_wp2_with fail
        refine bodyPost_ret (v := .tuple #[.slice A1 l.length c1, .int .i64 0]) ?_ rfl ⟨_, rfl, Kd.R_mono (Kd.R_far HI.out.2.2.1 (p := ⟨w.heap.size + 1, 0, none⟩) (fun k hk => hk.2) _) (fun _ _ => trivial), HI.out.2.2.2.1.setCell (by simp) _⟩
        have e := blk_cell (blk_set HI.out.2.1 0 (.slice A1 l.length c1)) 0
        simp only [List.setIfInBounds_toArray, List.set_cons_zero, List.getElem?_toArray, List.getElem?_cons_zero] at e
        simp [results, Try.results53, go_sem, e]
      · rw [if_neg c2] at H
        have c2b0 : (s.toList == ([] : List UInt8)) = false := beq_eq_false_iff_ne.mpr c2
        have c2b1 : (s.toList != ([] : List UInt8)) = true := bne_iff_ne.mpr c2
        clear c2
        replace H := Option.bind_eq_some_iff.mp H
        obtain ⟨⟨t, rest, e⟩, hr, H⟩ := H
        simp only at H
        by_cases c4 : e = 0
        · subst c4
          rw [if_pos rfl] at H
          by_cases c5 : l.length < 8796093022208
          · rw [if_pos c5] at H
            replace H := Aside0.mk H
            have HR := Aside0.mk hr
            clear hr hd fd
            go_wp2_with (go_at_call 69; go_must (refine (octet_Split81.good w.heap.size w.heap.size (w.heap.size + 1) w _ s v l t rest (by omega) (by omega) (by omega) c5 HR.out HI.out).mono ?_); rintro e w1 ⟨rfl, v1, hi1⟩; replace hi1 := Aside0.mk hi1)
            go_roundg k1
            case measure => have := HK.out; omega
            case rel => exact ⟨rest, v1, l ++ [t], _, rfl, H, ⟨by have := HK.out; omega⟩, hi1⟩
          · rw [if_neg c5] at H
            exact absurd H (by simp)
        · rw [if_neg c4] at H
          simp only [Option.some.injEq, Prod.mk.injEq] at H
          obtain ⟨rfl, rfl⟩ := H
          have HR := Aside0.mk hr
          have c4b : (e != 0) = true := by simpa using c4
          clear hd fd
          go_wp2_with (go_at_call 69; go_must (refine (octet_Split81.bad w.heap.size w.heap.size (w.heap.size + 1) w _ s v l t rest e c4 HR.out HI.out).mono ?_); rintro e w1 ⟨rfl, v1, hi1⟩; have hd1 := blk_cell hi1.2.1 0; have fd1 := blk_frozen hi1.2.1 0; simp only [List.getElem?_toArray, List.getElem?_cons_zero] at hd1; replace hi1 := Aside0.mk hi1)
          refine bodyPost_ret (v := .tuple #[.slice none 0 0, .int .i64 e]) ?_ rfl ⟨_, rfl, Kd.R_nil _ _ _ _ _, hi1.out.2.2.2.1.setCell (by simp) _⟩
          have e := blk_cell (blk_set hi1.out.2.1 0 (.slice none 0 0)) 0
          simp only [List.setIfInBounds_toArray, List.set_cons_zero, List.getElem?_toArray, List.getElem?_cons_zero] at e
          simp [results, Try.results53, go_sem, e]


end Go.Proofs.Ytdojpjiiihmdoaa.PG01
