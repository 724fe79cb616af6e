-- merged by merge.py: HRecBo HRecW0 HQ
import Derived.Test.YtmgpaccgjafjeaaHRecL
import Derived.Test.YtmgpaccgjafjeaaHRec4
import Derived.Test.YtmgpaccgjafjeaaPG28n
import Derived.Test.YtmgpaccgjafjeaaPG28m
import Derived.StillTailTactics
import Derived.BigQuiet
namespace Go.Proofs.YtmgpaccgjafjeaaHVR
open Go.RowKit Go.Maps Go.Sort Go.Shelf Go.Lib Go.Proofs.YtmgpaccgjafjeaaW.PrintWords Go.Proofs.YtmgpaccgjafjeaaHW Go.Proofs.YtmgpaccgjafjeaaHG Go.Proofs.Ytmgpaccgjafjeaa.PG28 Go.Proofs.YtmgpaccgjafjeaaHT
set_option linter.unusedVariables false
set_option linter.unusedSimpArgs false
abbrev St := S60
theorem of_go (l : List St) (hl : l.length ≤ 100) : ∀ (d k i : Nat) (acc : List El), i ≤ l.length → l.length - i ≤ d → d < k → acc.length = i → halyardlaw28_of.l0 k l acc (i : Int) = some (acc ++ (l.drop i).map (·.f1))
  | d, 0, i, acc, _, _, h, _ => by omega
  | d, k + 1, i, acc, h0, h1, h2, h3 => by
    unfold halyardlaw28_of.l0
    by_cases c : i < l.length
    · have hp : l[i]? = some l[i] := List.getElem?_eq_getElem c
      have hr : rd_T60 l (i : Int) = l[i] := by
        unfold rd_T60
        rw [Int.toNat_natCast, List.getD_eq_getElem?_getD, hp]; rfl
      rw [if_pos (by omega), if_pos (by omega), if_pos (by omega), if_pos (by omega), hr, show wrap64 ((i : Int) + 1) = ((i + 1 : Nat) : Int) by unfold wrap64; omega]
      cases d with
      | zero => omega
      | succ d =>
        rw [of_go l hl d k (i + 1) _ (by omega) (by omega) (by omega) (by simp; omega), List.drop_eq_getElem_cons c, List.map_cons, List.append_assoc]
        rfl
    · rw [if_neg (by omega), List.drop_eq_nil_of_le (by omega)]
      simp
theorem of_val (l : List St) (hl : l.length ≤ 100) : halyardlaw28_of.f 300 l = some (l.map (·.f1)) := by
  unfold halyardlaw28_of.f
  have := of_go l hl 100 300 0 [] (by omega) (by omega) (by omega) rfl
  simpa using this
/-- What is put is at its address; who stands in the way has another name. -/
theorem at_put {most : Int} {ls : List El} {x : El} (h : Ok most ls) (h0 : 0 ≤ x.f3) (h1 : x.f3 < 4294967296) (hk : putK most ls x = 0) : atP (putF most ls x) x.f3 = (x, true) := by
  have hp := h.put x h0 h1
  have e : putF most ls x = putL ls x := by unfold putF; rw [if_pos hk]
  rw [e] at hp ⊢
  unfold atP
  rw [atA_put h.v hp.v, if_pos rfl]
theorem at_clash {most : Int} {ls : List El} {x : El} (h : Ok most ls) (hk : putK most ls x = 9) : ∃ y, atP (putF most ls x) x.f3 = (y, true) ∧ ¬ y.f0 = x.f0 := by
  have e : putF most ls x = ls := by unfold putF; rw [if_neg (by rw [hk]; decide)]
  rw [e]
  have hc : clash ls x = true := by
    unfold putK at hk
    split at hk
    · exact absurd hk (by decide)
    · split at hk
      · assumption
      · split at hk
        · exact absurd hk (by decide)
        · exact absurd hk (by decide)
  unfold clash at hc
  unfold atP
  cases ha : atA ls x.f3 with
  | none => rw [ha] at hc; exact absurd hc (by simp)
  | some y => rw [ha] at hc; exact ⟨y, rfl, by simpa using hc⟩
theorem putF_no {most : Int} {ls : List El} {x : El} (hk : putK most ls x ≠ 0) : putF most ls x = ls := by unfold putF; rw [if_neg hk]
theorem of_mem {ls : List El} (hv : Valid ls) {x : El} (hx : x ∈ ls) : ofP ls x.f0 = (x, true) := by
  unfold ofP
  rw [show get nm ls x.f0 = some x from get_of_mem hv.up hx]
theorem at_mem {ls : List El} (hv : Valid ls) {x : El} (hx : x ∈ ls) : atP ls x.f3 = (x, true) := by
  unfold atP
  rw [atA_mem hv.ad hx]
theorem of_del {ls : List El} (hv : Valid ls) (s : ByteArray) : ofP (del nm ls s) s = (z24, false) := by
  unfold ofP
  rw [del_get hv.up s]
def delK (ls : List El) (s : ByteArray) : Int := if (get nm ls s).isSome = true then 0 else 3
theorem del_no {ls : List El} {s : ByteArray} (h : delK ls s ≠ 0) : del nm ls s = ls := by
  unfold delK at h
  cases hg : get nm ls s with
  | none => exact del_none hg
  | some y => rw [hg] at h; exact absurd rfl h
def DelPost (g b c : Nat) (most : Int) (ls : List El) (s : ByteArray) (w : World) (e : Ending) (w' : World) : Prop := e = .returned (.int .i64 (delK ls s)) ∧ FileAt w' g b c most (del nm ls s) ∧ K2 b c w w'
theorem DelAll {g b c : Nat} {most : Int} {ls : List El} {s : ByteArray} {w : World} (h : FileAt w g b c most ls) (hv : Valid ls) (hx : s.size ≤ 140737488351232) :
    Calls Try.prog 25 #[.pointer (some ⟨g, 0, none⟩), .string s] w (DelPost g b c most ls s w) := by
  cases hg : get nm ls s with
  | some y => exact (DelYes h hv hx hg).mono fun e w' hp => ⟨by unfold delK; rw [hg]; exact hp.1, hp.2.1, hp.2.2⟩
  | none => exact (DelNone h hx hg).mono fun e w' hp => ⟨by unfold delK; rw [hg]; exact hp.1, by rw [del_none hg]; exact h.below hp.2, K2.below hp.2⟩
theorem same_go (l : List El) (hl : l.length ≤ 100000) : ∀ (d k : Nat) (i : Int), 0 ≤ i → (l.length - i).toNat ≤ d → d < k → halyardref28_Same.l0 k l l i = some true
  | d, 0, i, _, _, h => by omega
  | d, k + 1, i, h0, h1, h2 => by
    unfold halyardref28_Same.l0
    by_cases c : i < (l.length : Int)
    · rw [if_pos c, if_pos h0, if_pos c]
      have hw : wrap64 (i + 1) = i + 1 := by unfold wrap64; omega
      rw [hw]
      simp only [beq_self_eq_true, Bool.not_true, Bool.or_self, Bool.false_eq_true, if_false]
      cases d with
      | zero => omega
      | succ d => exact same_go l hl d k (i + 1) (by omega) (by omega) (by omega)
    · rw [if_neg c]
theorem same_refl (l : List El) (hl : l.length ≤ 100000) : halyardref28_Same.f (l.length + 1) l l = some true := by
  unfold halyardref28_Same.f
  rw [if_pos rfl]
  exact same_go l hl l.length _ 0 (by omega) (by omega) (by omega)
theorem sameAll {ls : List El} {A1 A2 : Option Addr} {c1 c2 : Nat} {w : World} (h1 : Kd.C k24 w A1 ls.length ls) (hc1 : ls.length ≤ c1) (h2 : Kd.C k24 w A2 ls.length ls) (hc2 : ls.length ≤ c2) (hl : ls.length ≤ 100000) :
    Calls Try.prog 27 #[.slice A1 ls.length c1, .slice A2 ls.length c2] w fun e w' => e = .returned (.bool true) ∧ Below w.heap.size w w' :=
  (halyardref28_Same.calls _ A1 c1 ls A2 c2 ls true w h1 hc1 h2 hc2 (same_refl ls hl)).mono fun e w' ⟨he, hd⟩ => ⟨he, drawn_below hd⟩
theorem PutIs {g b c : Nat} {most k : Int} {ls : List El} {x : El} {w : World} (h : FileAt w g b c most ls) (hv : Ok most ls) (hx : x.f0.size ≤ 140737488351232) (a0 : 0 ≤ x.f3) (a1 : x.f3 < 4294967296) (hk : putK most ls x = k) :
    Calls Try.prog 23 #[.pointer (some ⟨g, 0, none⟩), .agg #[.string x.f0, .string x.f1, .string x.f2, .int .u32 x.f3, .bool x.f4]] w fun e w' => e = .returned (.int .i64 k) ∧ FileAt w' g b c most (putF most ls x) ∧ K2 b c w w' :=
  (Put g b c most ls x w h hv hx a0 a1).mono fun e w' hp => by unfold PutPost at hp; rw [hk] at hp; exact hp
theorem DelIs {g b c : Nat} {most k : Int} {ls : List El} {s : ByteArray} {w : World} (h : FileAt w g b c most ls) (hv : Valid ls) (hx : s.size ≤ 140737488351232) (hk : delK ls s = k) :
    Calls Try.prog 25 #[.pointer (some ⟨g, 0, none⟩), .string s] w fun e w' => e = .returned (.int .i64 k) ∧ FileAt w' g b c most (del nm ls s) ∧ K2 b c w w' :=
  (DelAll h hv hx).mono fun e w' hp => by unfold DelPost at hp; rw [hk] at hp; exact hp
theorem bytesLess_eq : ∀ a b : List UInt8, Op.bytesLess a b = decide (a < b)
  | [], [] => by simp [Op.bytesLess]
  | [], _ :: _ => by simp [Op.bytesLess]
  | _ :: _, [] => by simp [Op.bytesLess]
  | a :: l, b :: m => by
    have ih := bytesLess_eq l m
    unfold Op.bytesLess
    by_cases h1 : a < b
    · simp [h1, List.cons_lt_cons_iff]
    · by_cases h2 : a = b
      · subst h2; simp [ih, List.cons_lt_cons_iff]
      · simp [h1, h2, List.cons_lt_cons_iff]
theorem less_of (s t : ByteArray) : Op.bytesLess s.toList t.toList = Go.Proofs.YtmgpaccgjafjeaaHT.lt s t := by
  rw [bytesLess_eq, ByteArray.toList_eq, ByteArray.toList_eq]; rfl
end Go.Proofs.YtmgpaccgjafjeaaHVR

namespace Go.Proofs.YtmgpaccgjafjeaaHVR
open Go.RowKit Go.Proofs.YtmgpaccgjafjeaaW.PrintWords Go.Proofs.YtmgpaccgjafjeaaHW Go.Proofs.YtmgpaccgjafjeaaHG Go.Proofs.Ytmgpaccgjafjeaa.PG28 Go.Proofs.YtmgpaccgjafjeaaHT
set_option linter.unusedVariables false
set_option linter.unusedSimpArgs false
theorem long_go (l : List S24) : ∀ (d k : Nat) (s i : Int), 0 ≤ i → i ≤ 200 → (200 - i).toNat ≤ d → d < k → ∃ b, halyardlaw28_Long.l0 k l s i = some b ∧ (b = false → l.length ≤ 100) := by
  intro d
  induction d with
  | zero =>
    intro k s i h0 h1 hd hk
    obtain ⟨k, rfl⟩ : ∃ m, k = m + 1 := ⟨k - 1, by omega⟩
    simp only [halyardlaw28_Long.l0]
    rw [if_neg (show ¬ i < 200 by omega)]
    split
    · split
      · exact ⟨_, rfl, by simp⟩
      · exact ⟨_, rfl, fun _ => by omega⟩
    · split
      · exact ⟨_, rfl, by simp⟩
      · exact ⟨_, rfl, fun _ => by omega⟩
  | succ d ih =>
    intro k s i h0 h1 hd hk
    obtain ⟨k, rfl⟩ : ∃ m, k = m + 1 := ⟨k - 1, by omega⟩
    simp only [halyardlaw28_Long.l0]
    by_cases c : i < (l.length : Int)
    · rw [if_pos c]
      by_cases c2 : i < 200
      · rw [if_pos c2, if_pos h0, show wrap64 (i + 1) = i + 1 by unfold wrap64; omega]
        exact ih k _ (i + 1) (by omega) (by omega) (by omega) (by omega)
      · rw [if_neg c2]
        split
        · exact ⟨_, rfl, by simp⟩
        · exact ⟨_, rfl, fun _ => by omega⟩
    · rw [if_neg c]
      split
      · exact ⟨_, rfl, by simp⟩
      · exact ⟨_, rfl, fun _ => by omega⟩
theorem long_val (l : List S24) : ∃ b, halyardlaw28_Long.f 300 l = some b ∧ (b = false → l.length ≤ 100) :=
  long_go l 200 300 0 0 (by decide) (by decide) (by decide) (by decide)
theorem el_ext {x y : El} (h0 : x.f0 = y.f0) (h1 : x.f1 = y.f1) (h2 : x.f2 = y.f2) (h3 : x.f3 = y.f3) (h4 : x.f4 = y.f4) : x = y := by
  obtain ⟨a, b, c, d, e⟩ := x
  obtain ⟨a', b', c', d', e'⟩ := y
  dsimp only at h0 h1 h2 h3 h4
  subst h0 h1 h2 h3 h4
  rfl
theorem alloc_at {W : World} {B : Nat} (o : Obj) (h : W.heap.size = B) : (W.alloc o).heap[B]? = some o := by subst h; exact World.alloc_heap_new W o
theorem C_of_blk {w : World} {B : Nat} {cur : Array Value} {l : List El} (h : w.heap[B]? = some (.cells cur 24 (0, 0))) (hl : l.length ≤ 100000) (hc : cur.toList = l.flatMap cel) : Kd.C k24 w (some ⟨B, 0, none⟩) l.length l := by
  have ho : w.ownsRow 0 24 5 (.slice (some ⟨B, 0, none⟩) l.length l.length) l.length (l.flatMap cel) := by
    have e := Go.Proofs.YtmgpaccgjafjeaaHS.flat_len cel 5 cel_len l
    refine ⟨e, .inr ⟨B, l.length, cur, rfl, Nat.zero_le _, h, Nat.le_refl _, by unfold maxLen; omega, by rw [← e, ← hc]; simp, ?_⟩⟩
    rw [← e, ← hc, List.take_length]
  obtain ⟨A, cap, hv, _, hC, _⟩ := C_of_own ho
  injection hv with hA _ _
  rw [hA]
  exact hC
theorem ReadIs {s : ByteArray} {cs : El} {kg : Int} {w : World} (hs : s.size ≤ 140737488351232) (h : readK s = (cs, kg)) : Calls Try.prog 12 #[.string s] w fun e w' => e = .returned (.tuple #[.agg #[.string cs.f0, .string cs.f1, .string cs.f2, .int .u32 cs.f3, .bool cs.f4], .int .i64 kg]) ∧ Below w.heap.size w w' := by
  refine (Read s w hs).mono fun e w' hp => ?_
  unfold ReadPost at hp
  rw [h] at hp
  exact hp
theorem RefReadIs {s : ByteArray} {cs : El} {kg : Int} {w : World} (hs : s.size ≤ 140737488351232) (h : readK s = (cs, kg)) : Calls Try.prog 13 #[.string s] w fun e w' => e = .returned (.tuple #[.agg #[.string cs.f0, .string cs.f1, .string cs.f2, .int .u32 cs.f3, .bool cs.f4], .int .i64 kg]) ∧ Below w.heap.size w w' := by
  refine (RefRead s w hs).mono fun e w' hp => ?_
  unfold ReadPost at hp
  rw [h] at hp
  exact hp
theorem enc_inj2 {x y : El} (hx : okS x = true) (hy : okS y = true) (x0 : 0 ≤ x.f3) (x1 : x.f3 < 4294967296) (y0 : 0 ≤ y.f3) (y1 : y.f3 < 4294967296) (h : encS x = encS y) : x = y := by
  have e1 := read_enc hx x0 x1
  have e2 := read_enc hy y0 y1
  rw [h, e2] at e1
  injection e1 with e _
  exact e.symm
end Go.Proofs.YtmgpaccgjafjeaaHVR

namespace Go.Proofs.YtmgpaccgjafjeaaHQ
open Go Go.RowKit
set_option linter.unusedVariables false
set_option linter.unusedSimpArgs false
/-- Operations that never enter a function. -/
def plainOp : Op → Bool
  | .move _ | .assign _ | .pick .. | .load .. | .nilCheck _ | .binOp .. | .unOp .. | .convert .. | .slice .. | .fieldAddr .. | .field .. | .indexAddr .. | .index .. | .extract .. => true
  | _ => false
theorem value_only {P : Program} {w w' : World} (s : Sem Value) (f : FuncId) (args : Array Value) : (do pure (Next.value (← s)) : Sem Next).run P w ≠ .ok (.enter f args) w' := by
  intro h
  simp only [Sem.run_bind] at h
  cases hs : s.run P w <;> simp [hs, Result.andThen] at h
theorem never_enter {P : Program} {w w' : World} (ρ : Operand → Value) (o : Oper) (h : plainOp o.op = true) (f : FuncId) (args : Array Value) : (execOp ρ o).run P w ≠ .ok (.enter f args) w' := by
  unfold execOp
  cases ho : o.op <;> simp only [ho, plainOp, Bool.false_eq_true] at h <;> simp only []
  all_goals first
    | exact value_only _ _ _
    | (intro hh; simp at hh; done)
    | skip
  · intro hh
    simp only [Sem.run_bind] at hh
    simp only [Result.andThen] at hh
    split at hh
    · simp at hh
    · cases hh
  · intro hh
    split at hh
    all_goals first
      | (simp [runtimePanic, Sem.run_bind] at hh; done)
      | skip
    split at hh
    · simp [runtimePanic, Sem.run_bind] at hh
    · simp only [Sem.run_bind] at hh
      repeat' (first | (split at hh) | (simp [Result.andThen] at hh; done) | (cases hh; done) | (simp only [Result.andThen, Sem.run_bind] at hh))
    · simp at hh
section
variable {P : Program} {ops : Array Oper} {C : World → Prop} {w : World}
theorem still_of_quiet {Q : Act → Prop} (hC : C w) : ∀ (l : List Oper) (a : Act), (∀ o ∈ l, plainOp o.op = true) → wpQuiet P ops C Q l a → wpStill P ops w Q l a
  | [], a, _, h => h
  | o :: rest, a, hl, h => by
    unfold wpQuiet at h
    unfold wpStill
    split
    · rename_i hw
      rw [if_pos hw] at h
      obtain ⟨v, h1, h2⟩ := h
      have q := h1 w hC
      unfold Oper.quietAt at q
      unfold Oper.still
      have ne := fun f args w' => never_enter (P := P) (w := w) (w' := w') a.eval o (hl o (by simp)) f args
      generalize (execOp a.eval o).run P w = r at q ne
      have ih := still_of_quiet hC rest (a.put o.dst v) (fun o ho => hl o (by simp [ho])) h2
      cases r with
      | ok n w' =>
        cases n with
        | value u => obtain ⟨e1, rfl⟩ := q; exact ⟨e1, ih⟩
        | skip => obtain ⟨e1, rfl⟩ := q; exact ⟨e1, ih⟩
        | enter f args => exact absurd rfl (ne f args w')
        | _ => exact q.elim
      | _ => exact q.elim
    · rename_i hw
      rw [if_neg hw] at h
      exact still_of_quiet hC rest _ (fun o ho => hl o (by simp [ho])) h
end
end Go.Proofs.YtmgpaccgjafjeaaHQ
