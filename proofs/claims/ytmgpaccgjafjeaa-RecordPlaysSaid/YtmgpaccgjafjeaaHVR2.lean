/- Collected and sorted by names (slices.SortedFunc over maps.Values): what a book lists is its row that rises. -/
import Derived.Test.YtmgpaccgjafjeaaHVR
import Derived.Test.YtmgpaccgjafjeaaShelfP
import Derived.Test.YtmgpaccgjafjeaaShelf
import Derived.Deep.RegionHeld3
import Derived.Sort.OwnSorted
import Derived.Test.YtmgpaccgjafjeaaWWords
import Derived.Test.YtmgpaccgjafjeaaHW
import Derived.Test.YtmgpaccgjafjeaaHS
namespace Go.Proofs.YtmgpaccgjafjeaaHVR
open Go.RowKit Go.Maps Go.Sort Go.Shelf Go.Lib Go.Proofs.YtmgpaccgjafjeaaW.PrintWords Go.Proofs.YtmgpaccgjafjeaaHW Go.Proofs.YtmgpaccgjafjeaaHG Go.Proofs.Ytmgpaccgjafjeaa.PG28 Go.Proofs.YtmgpaccgjafjeaaHT
set_option linter.unusedVariables false
set_option linter.unusedSimpArgs false
instance : Inhabited El := ⟨z24⟩
/-- The elements' order. -/
def cmpN (x y : El) : Int := compareBytes x.f0.data.toList y.f0.data.toList
theorem compareBytes_neg : ∀ (a b : List UInt8), decide (compareBytes a b < 0) = decide (a < b)
  | [], [] => by simp [compareBytes]
  | [], _ :: _ => by simp [compareBytes]
  | _ :: _, [] => by simp [compareBytes]
  | a :: l, b :: m => by
    unfold compareBytes
    have ih := compareBytes_neg l m
    by_cases h1 : a < b
    · simp [h1, List.cons_lt_cons_iff]
    · by_cases h2 : b < a
      · have hne : ¬ a = b := fun e => by subst e; exact h1 h2
        simp [h1, h2, hne, List.cons_lt_cons_iff]
      · have e : a = b := UInt8.le_antisymm (UInt8.not_lt.mp h2) (UInt8.not_lt.mp h1)
        subst e
        simp only [h1, if_false, ih, List.cons_lt_cons_iff]
        simp [h1]
theorem ltN (x y : El) : ltOf cmpN x y = Go.Proofs.YtmgpaccgjafjeaaHT.lt x.f0 y.f0 := by
  unfold ltOf cmpN Go.Proofs.YtmgpaccgjafjeaaHT.lt
  exact compareBytes_neg _ _
theorem swoN : SWO (ltOf cmpN) where
  irrefl x := by rw [ltN]; exact lt_irrefl _
  trans x y z h1 h2 := by rw [ltN] at *; exact lt_trans h1 h2
  ntrans x y z h1 h2 := by
    rw [ltN] at *
    cases h3 : Go.Proofs.YtmgpaccgjafjeaaHT.lt x.f0 z.f0 with
    | false => rfl
    | true =>
      cases h4 : Go.Proofs.YtmgpaccgjafjeaaHT.lt y.f0 x.f0 with
      | true => have := lt_trans h4 h3; rw [h2] at this; exact absurd this (by simp)
      | false => have e := lt_total h1 h4; rw [e, h2] at h3; exact absurd h3 (by simp)
set_option maxHeartbeats 1000000 in
theorem key_of (x : El) (w : World) : Calls Try.prog 61 #[.agg #[.string x.f0, .string x.f1, .string x.f2, .int .u32 x.f3, .bool x.f4]] w fun e w' => e = .returned (.string x.f0) ∧ w' = w.alloc (.cells #[.string x.f0, .string x.f1, .string x.f2, .int .u32 x.f3, .bool x.f4] 24) := by
  go_enter Try.func61, Try.ntmps61
  go_wp2
  go_ret
  exact ⟨rfl, rfl⟩
/-- What the comparison leaves: some draws, some new blocks. -/
def CmpPost (x y : El) (w : World) (e : Ending) (w' : World) : Prop := e = .returned (.int .i64 (cmpN x y)) ∧ ∃ q os', w' = grow (w.drewN q) os'
set_option maxRecDepth 100000 in
set_option maxHeartbeats 2000000 in
theorem cmp_of (Bk : Nat) (x y : El) (w : World) (hk : w.cell? ⟨Bk, 0, none⟩ = some (.func (.func 61) #[] #[])) :
    Calls Try.prog 88 #[encV x, encV y, .pointer (some ⟨Bk, 0, none⟩)] w (CmpPost x y w) := by
  have ek := World.new_ne w _ hk
  unfold encV cel
  go_enter Try.func88, Try.ntmps88
  go_wp2_with fail
  obtain ⟨W2, hW2⟩ : ∃ W2, (w.alloc (Obj.cells (cel x).toArray 24)).alloc (Obj.cells (cel y).toArray 24) = W2 := ⟨_, rfl⟩
  have e1 : ElAt W2 w.heap.size x := by rw [← hW2]; exact hw_below (World.alloc_heap_new w _) ((Below.refl _ _).alloc (Nat.le_refl _) _)
  have e2 : ElAt W2 (w.heap.size + 1) y := by rw [← hW2]; have z := World.alloc_heap_new (w.alloc (Obj.cells (cel x).toArray 24)) (Obj.cells (cel y).toArray 24); rw [World.size_alloc] at z; exact z
  have hk2 : W2.cell? ⟨Bk, 0, none⟩ = some (.func (.func 61) #[] #[]) := by rw [← hW2]; exact ((((Below.refl w.heap.size w).alloc (Nat.le_refl _) _).alloc (by simp) _).cell (p := ⟨Bk, 0, none⟩) (World.block_lt_of_cell? w _ hk)).trans hk
  have hg : W2 = grow w #[Obj.cells (cel x).toArray 24, Obj.cells (cel y).toArray 24] := by rw [← hW2, alloc_eq_grow, alloc_eq_grow, grow_grow]; rfl
  unfold cel at hW2
  rw [hW2]
  clear hW2
  have HG := Aside0.mk hg
  have hS : (fun w' : World => w'.cell? ⟨Bk, 0, none⟩ = some (.func (.func 61) #[] #[]) ∧ w'.cell? ⟨w.heap.size, 0, none⟩ = some (.string x.f0) ∧ w'.cell? ⟨w.heap.size, 1, none⟩ = some (.string x.f1) ∧ w'.cell? ⟨w.heap.size, 2, none⟩ = some (.string x.f2) ∧ w'.cell? ⟨w.heap.size, 3, none⟩ = some (.int .u32 x.f3) ∧ w'.cell? ⟨w.heap.size, 4, none⟩ = some (.bool x.f4) ∧ w'.cell? ⟨w.heap.size + 1, 0, none⟩ = some (.string y.f0) ∧ w'.cell? ⟨w.heap.size + 1, 1, none⟩ = some (.string y.f1) ∧ w'.cell? ⟨w.heap.size + 1, 2, none⟩ = some (.string y.f2) ∧ w'.cell? ⟨w.heap.size + 1, 3, none⟩ = some (.int .u32 y.f3) ∧ w'.cell? ⟨w.heap.size + 1, 4, none⟩ = some (.bool y.f4)) W2 := ⟨hk2, by first | exact ⟨e1.cell 0, e1.cell 1, e2.cell 0, e2.cell 1⟩ | exact ⟨e1.cell 0, e1.cell 1, e1.cell 2, e1.cell 3, e1.cell 4, e2.cell 0, e2.cell 1, e2.cell 2, e2.cell 3, e2.cell 4⟩⟩
  clear hg e1 e2 hk ek
  simp only at hS
  go_region_held3 (fun w' => w'.cell? ⟨Bk, 0, none⟩ = some (.func (.func 61) #[] #[]) ∧ w'.cell? ⟨w.heap.size, 0, none⟩ = some (.string x.f0) ∧ w'.cell? ⟨w.heap.size, 1, none⟩ = some (.string x.f1) ∧ w'.cell? ⟨w.heap.size, 2, none⟩ = some (.string x.f2) ∧ w'.cell? ⟨w.heap.size, 3, none⟩ = some (.int .u32 x.f3) ∧ w'.cell? ⟨w.heap.size, 4, none⟩ = some (.bool x.f4) ∧ w'.cell? ⟨w.heap.size + 1, 0, none⟩ = some (.string y.f0) ∧ w'.cell? ⟨w.heap.size + 1, 1, none⟩ = some (.string y.f1) ∧ w'.cell? ⟨w.heap.size + 1, 2, none⟩ = some (.string y.f2) ∧ w'.cell? ⟨w.heap.size + 1, 3, none⟩ = some (.int .u32 y.f3) ∧ w'.cell? ⟨w.heap.size + 1, 4, none⟩ = some (.bool y.f4)) (first | exact hS | go_keep)
    (first
      | (go_at_call 61; (with_reducible refine (key_of x _).mono ?_); rintro e w1 ⟨rfl, rfl⟩)
      | (go_at_call 61; (with_reducible refine (key_of y _).mono ?_); rintro e w1 ⟨rfl, rfl⟩)
      | (go_at_call 89; refine (Try.strings_Compare _ _ _).mono ?_; rintro e w1 ⟨rfl, rfl⟩))
  all_goals
    go_wp2_with fail
    go_ret
    refine ⟨rfl, 1, #[Obj.cells (cel x).toArray 24, Obj.cells (cel y).toArray 24, Obj.cells (cel x).toArray 24, Obj.cells (cel y).toArray 24], ?_⟩
    rw [HG.out, alloc_eq_grow, alloc_eq_grow, grow_grow, grow_grow]
    rfl
theorem cmp_lays (Bk blk size : Nat) (w : World) (hne : Bk ≠ blk) (hk : w.cell? ⟨Bk, 0, none⟩ = some (.func (.func 61) #[] #[])) :
    CmpLays Try.prog 88 #[.pointer (some ⟨Bk, 0, none⟩)] cel 5 cmpN blk 0 size w := fun m os dk hs x y =>
  cmp_of Bk x y _ (Go.Proofs.YtmgpaccgjafjeaaHS.cell_sortedK cel 5 dk hk hne)
theorem eg_cmp : ∀ args w, (callFunc 88 args).run Try.prog w = .ok (.enter 88 args) w := enters_of Try.func88 (by kernel_rfl) rfl
theorem sortedIn_list {d : Array El} (h : SortedIn (ltOf cmpN) 0 d.size d) : d.toList.Pairwise (fun a b => ltOf cmpN b a = false) := by
  rw [List.pairwise_iff_getElem]
  intro i j hi hj hij
  have := h i j (Nat.zero_le _) hij (by simpa using hj)
  rw [getElem!_pos d j (by simpa using hj), getElem!_pos d i (by simpa using hi)] at this
  simpa using this
/-- What is sorted. -/
def SortedRes (S : List El → Prop) (w : World) (e : Ending) (W' : World) : Prop := ∃ (v : Value) (xs ys : List El), e = .returned v ∧ S xs ∧ ys.Perm xs ∧ ys.Pairwise (fun a b => Go.Proofs.YtmgpaccgjafjeaaHT.lt b.f0 a.f0 = false) ∧ W'.ownsRow w.heap.size 24 5 v ys.length (ys.flatMap cel) ∧ Below w.heap.size w W'
set_option maxRecDepth 100000 in
set_option maxHeartbeats 2000000 in
/-- slices.SortedFunc(seq, by names), against whatever iterator. -/
theorem sorted_in (n : Nat) (hn : 6 ≤ n) (gf : Nat) (lb : Array Value) (eg : ∀ args w, (callFunc gf args).run Try.prog w = .ok (.enter gf args) w) (S Sp : List El → Prop) (N : Nat) (hN : N ≤ maxLen) (hNb : N * 56 ≤ 140737488355328) (Bk : Nat) (w : World)
    (hk : w.cell? ⟨Bk, 0, none⟩ = some (.func (.func 61) #[] #[])) (hseq : SeqStopsK Fence.wide (n - 1 - 1 - 1) Try.prog gf lb (fun x => #[encV x]) KeepsWalks S Sp N w) (hlenb : ∀ xs, S xs → xs.length * 56 ≤ 140737488355328) :
    CallsIn Fence.wide n Try.prog 86 #[.func (.func gf) #[] lb, .func (.func 88) #[] #[.pointer (some ⟨Bk, 0, none⟩)]] w (SortedRes S w) := by
  have cA := collect_in (n - 1) (by omega) gf lb eg S Sp N hN hNb w hseq
  have hbk := World.block_lt_of_cell? w _ hk
  refine callsIn_of_wp Try.func86 rfl trivial ?_ rfl
  simp only [Try.ntmps86, List.size_toArray, List.length_cons, List.length_nil, Nat.reduceAdd, Nat.reduceSub, Array.replicate_succ, Array.replicate_zero, List.push_toArray, List.append_toArray, List.nil_append, List.cons_append]
  have hfA : Fence.wide.fn 96 := trivial
  have hfB : Fence.wide.fn 97 := trivial
  have h1 : 1 ≤ n := by omega
  gi_wp2_with (gi_at_call 96; refine cA.mono ?_; rintro e W ⟨v, xs, rfl, hS, hrow, hb⟩)
  rcases hrow.2 with ⟨rfl, hz⟩ | ⟨gb, cap, cur, rfl, hbase, hgb, r1, r2, r3, r4⟩
  · have hss : xs = [] := List.eq_nil_of_length_eq_zero hz
    subst hss
    have cN := AnyF.slices_SortFunc_none Try.sortSub none 0 (.func (.func 88) #[] #[.pointer (some ⟨Bk, 0, none⟩)]) W
    change Calls Try.prog 97 _ _ _ at cN
    gi_wp2_with (gi_at_call 97; refine (callsIn_wide.2 cN).mono ?_; rintro e w' ⟨rfl, rfl⟩)
    go_ret
    exact ⟨_, [], [], rfl, hS, List.Perm.refl _, List.Pairwise.nil, hrow, hb⟩
  · have hbs := hb.size
    have hgl : gb < W.heap.size := (Array.getElem?_eq_some_iff.1 hgb).1
    have hH : HoldsK cel 5 W gb 0 xs.toArray := Go.Proofs.YtmgpaccgjafjeaaHS.holdsK_of_block cel 5 cel_len (by decide) hgb r4
    have hlx : xs.length ≤ maxLen := Nat.le_trans r1 r2
    have hsz : xs.toArray.size < 4611686018427387904 := by have := hrow.1; have hx : xs.length * 56 ≤ 140737488355328 := hlenb xs hS; simp; omega
    have hkW : W.cell? ⟨Bk, 0, none⟩ = some (.func (.func 61) #[] #[]) := (hb.cell (p := ⟨Bk, 0, none⟩) hbk).trans hk
    have cS := AnyQ.slices_SortFunc Try.sortSub 5 Try.isAgg24 Try.sizeOf24 cel cel_len (fun x v hv => by simp [cel] at hv; rcases hv with rfl | rfl | rfl | rfl | rfl <;> rfl) cmpN swoN 88 #[.pointer (some ⟨Bk, 0, none⟩)] gb 0 cap xs.toArray W eg_cmp (cmp_lays Bk gb xs.toArray.size W (by omega) hkW) hH hgl hsz
    change Calls Try.prog 97 _ _ _ at cS
    simp only [List.size_toArray] at cS
    gi_wp2_with (gi_at_call 97; refine (callsIn_wide.2 cS).mono ?_; rintro e w' ⟨rfl, d', nn, os, hp, hs, rfl⟩)
    go_ret
    have e1 : d'.size = xs.length := by simpa using hp.1
    have e2 : d'.toList.Perm xs := by
      have z := hp.2.2
      try simp only [List.size_toArray] at z
      have q1 : d'.extract 0 xs.length = d' := by rw [← e1]; simp
      have q2 : xs.toArray.extract 0 xs.length = xs.toArray := by simp
      rw [q1, q2] at z
      simpa using z
    refine ⟨_, xs, d'.toList, rfl, hS, e2, ?_, ?_, hb.grown (Go.Proofs.YtmgpaccgjafjeaaHS.grownBy_sortedK cel 5 d') hb.size (fun j hj => by cases hj; exact hbase)⟩
    · have := sortedIn_list (by rw [e1]; exact hs)
      exact this.imp (fun {a b} h => by rw [← ltN]; exact h)
    · rw [show d'.toList.length = xs.length by simpa using e1]
      exact Go.Proofs.YtmgpaccgjafjeaaHS.ownsRow_sortedK cel 5 cel_len (by decide) e1 hbase hgb r1 r2 r3
end Go.Proofs.YtmgpaccgjafjeaaHVR
