/- RecordBoth: the walk. -/
import Derived.Test.YtmgpaccgjafjeaaHRecBm
import Derived.Deep.DeepCutAuto
import Derived.Deep.RegionWith
import Derived.IntWalk
import Derived.Laws.Cover1
import Derived.Deep.QuietTactic
import Derived.Outline
namespace Go.Proofs.YtmgpaccgjafjeaaHVR
open Go.RowKit Go.Maps Go.Sort Go.Shelf Go.Lib Go.Proofs.YtmgpaccgjafjeaaW.PrintWords Go.Proofs.YtmgpaccgjafjeaaHW Go.Proofs.YtmgpaccgjafjeaaHG Go.Proofs.Ytmgpaccgjafjeaa.PG28 Go.Proofs.YtmgpaccgjafjeaaHT
set_option linter.unusedVariables false
set_option linter.unusedSimpArgs false
theorem C_k2 {w w' : World} {b c n : Nat} {A : Option Addr} {xs : List El} (h : Kd.C k24 w A n xs) (hk : K2 b c w w') (hb : ∀ a, A = some a → a.block ≠ b ∧ a.block ≠ c) : Kd.C k24 w' A n xs := by
  obtain ⟨h1, h2, h3⟩ := h
  refine ⟨h1, h2, fun h0 => ?_⟩
  obtain ⟨ad, e, hc⟩ := h3 h0
  refine ⟨ad, e, fun j p hp => ?_⟩
  obtain ⟨cs, hl, hK, hcell⟩ := hc j p hp
  refine ⟨cs, hl, hK, fun i u hu => ?_⟩
  have z := hcell i u hu
  have hbl : (ad.add (j * k24.sz + i)).block = ad.block := by unfold Addr.add; split <;> rfl
  rw [World.cell?_of_block (hk.2.2.2.2 _ (World.block_lt_of_cell? w _ z) (by rw [hbl]; exact (hb ad e).1) (by rw [hbl]; exact (hb ad e).2))]
  exact z
theorem C_alloc {W : World} {A : Option Addr} {n : Nat} {xs : List El} (h : Kd.C k24 W A n xs) (o : Obj) : Kd.C k24 (W.alloc o) A n xs := Kd.C_below h ((Below.refl _ W).alloc (Nat.le_refl _) o)
/-- A step's box. -/
def StAt (w : World) (B : Nat) (x : St) : Prop := w.heap[B]? = some (.cells #[.int .i64 x.f0, .string x.f1.f0, .string x.f1.f1, .string x.f1.f2, .int .u32 x.f1.f3, .bool x.f1.f4] 60 (0, 0))
theorem StAt.cells {w : World} {B : Nat} {x : St} (h : StAt w B x) : w.cell? ⟨B, 0, none⟩ = some (.int .i64 x.f0) ∧ w.cell? ⟨B, 1, none⟩ = some (.string x.f1.f0) ∧ w.cell? ⟨B, 2, none⟩ = some (.string x.f1.f1) ∧ w.cell? ⟨B, 3, none⟩ = some (.string x.f1.f2) ∧ w.cell? ⟨B, 4, none⟩ = some (.int .u32 x.f1.f3) ∧ w.cell? ⟨B, 5, none⟩ = some (.bool x.f1.f4) := ⟨blk_cell h 0, blk_cell h 1, blk_cell h 2, blk_cell h 3, blk_cell h 4, blk_cell h 5⟩
theorem StAt.below {w w1 : World} {B : Nat} {x : St} (h : StAt w B x) (hb : Below w.heap.size w w1) : StAt w1 B x := hw_below h hb
theorem StAt.k2 {w w1 : World} {B b c : Nat} {x : St} (h : StAt w B x) (hk : K2 b c w w1) (h1 : B ≠ b) (h2 : B ≠ c) : StAt w1 B x := K2.block hk h h1 h2
/-- A file at a round's head. -/
def At1 (W w : World) (g b c : Nat) (most : Int) (ls : List El) : Prop := FileAt w g b c most ls ∧ Ok most ls ∧ Below W.heap.size W w ∧ W.heap.size ≤ b ∧ W.heap.size ≤ c
section
variable {W w w' : World} {g b c : Nat} {most : Int} {ls ms : List El}
theorem At1.below (h : At1 W w g b c most ls) (hb : Below w.heap.size w w') : At1 W w' g b c most ls := ⟨h.1.below hb, h.2.1, below_step h.2.2.1 hb, h.2.2.2⟩
theorem At1.alloc (h : At1 W w g b c most ls) (o : Obj) : At1 W (w.alloc o) g b c most ls := h.below ((Below.refl _ w).alloc (Nat.le_refl _) o)
theorem At1.drew (h : At1 W w g b c most ls) : At1 W w.drew g b c most ls := ⟨h.1.drew, h.2.1, below_drew h.2.2.1, h.2.2.2⟩
theorem At1.bl (h : At1 W w g b c most ls) (hb : Bl w w') : At1 W w' g b c most ls := h.below hb.below
theorem At1.k2 (h : At1 W w g b c most ls) (hf : FileAt w' g b c most ms) (ho : Ok most ms) (hk : K2 b c w w') : At1 W w' g b c most ms := ⟨hf, ho, K2.to_below h.2.2.1 hk h.2.2.2.1 h.2.2.2.2 h.2.2.1.size, h.2.2.2⟩
end
set_option maxRecDepth 100000 in
set_option maxHeartbeats 64000000 in
theorem RecordBoth_many (a0 : Int) (A1 : Option Addr) (c1 : Nat) (ll : List St) (w : World) (l0 : 0 ≤ a0) (u0 : a0 ≤ 255) (hs : Kd.C k60 w A1 ll.length ll) (hc1 : ll.length ≤ c1) (hn : ∀ x ∈ ll, x.f1.f0.size ≤ 140737488351232 ∧ 0 ≤ x.f1.f3 ∧ x.f1.f3 < 4294967296) (n60 : 60 < ll.length) :
    Calls Try.prog 5 #[.int .u8 a0, .slice A1 ll.length c1] w (AliveRet w) := by
  have HS := Aside0.mk hs
  have HS0 := Aside0.mk hs
  have HC1 := Aside0.mk hc1
  have HN := Aside0.mk hn
  have HB := Aside0.mk (Below.refl w.heap.size w)
  have huE := Try.underlying24
  have huS := Try.underlying60
  have hw1 : IntKind.i64.wrap (1 + a0) = 1 + a0 := IntWalk.i64_in _ (by omega)
  have m60 : (60 : Int) < (ll.length : Int) := by omega
  clear hs hc1 hn
  go_enter Try.func5, Try.ntmps5
  go_wp2_with (first
    | (go_at_call 9; go_must (refine (alive _).mono ?_); go_must (rintro e w4 ⟨rfl, hb⟩; replace HB := Aside0.mk (below_step HB.out hb)); clear hb))
  go_ret
  exact ⟨rfl, HB.out⟩
set_option maxRecDepth 100000 in
set_option maxHeartbeats 64000000 in
theorem RecordBoth_long (a0 : Int) (A1 : Option Addr) (c1 : Nat) (ll : List St) (w : World) (l0 : 0 ≤ a0) (u0 : a0 ≤ 255) (hs : Kd.C k60 w A1 ll.length ll) (hc1 : ll.length ≤ c1) (hn : ∀ x ∈ ll, x.f1.f0.size ≤ 140737488351232 ∧ 0 ≤ x.f1.f3 ∧ x.f1.f3 < 4294967296) (n60 : ll.length ≤ 60) (ms : List El) (hof : halyardlaw28_of.f 300 ll = some ms) (hl2 : halyardlaw28_Long.f 300 ms = some true) :
    Calls Try.prog 5 #[.int .u8 a0, .slice A1 ll.length c1] w (AliveRet w) := by
  have HS := Aside0.mk hs
  have HS0 := Aside0.mk hs
  have HC1 := Aside0.mk hc1
  have HN := Aside0.mk hn
  have HB := Aside0.mk (Below.refl w.heap.size w)
  have huE := Try.underlying24
  have huS := Try.underlying60
  have hw1 : IntKind.i64.wrap (1 + a0) = 1 + a0 := IntWalk.i64_in _ (by omega)
  have m60 : ¬ (60 : Int) < (ll.length : Int) := by omega
  have HOF := Aside0.mk hof
  have HL2 := Aside0.mk hl2
  clear hs hc1 hn hof hl2
  go_enter Try.func5, Try.ntmps5
  go_wp2_with (first
    | (go_at_call 20; go_must (refine (halyardlaw28_of.calls 300 A1 c1 ll ms _ HS.out HC1.out HOF.out).mono ?_); go_must (rintro e w2 ⟨v_, rfl, hr_, hb_⟩; obtain ⟨A2, c2, rfl, hc2_, hC2_⟩ := Kd.R_reads hr_; have HR2 := Aside0.mk hC2_; have HC2 := Aside0.mk hc2_; replace HB := Aside0.mk (below_step HB.out hb_); replace HS := Aside0.mk (Kd.C_below HS.out hb_)); clear hr_ hb_ hC2_ hc2_)
    | (go_at_call 8; go_must (refine (halyardlaw28_Long.calls 300 A2 c2 ms true _ HR2.out HC2.out HL2.out).mono ?_); go_must (rintro e w3 ⟨rfl, hd⟩; replace HB := Aside0.mk (below_step HB.out (drawn_below hd)); replace HS := Aside0.mk (Kd.C_below HS.out (drawn_below hd))); clear hd)
    | (go_at_call 9; go_must (refine (alive _).mono ?_); go_must (rintro e w4 ⟨rfl, hb⟩; replace HB := Aside0.mk (below_step HB.out hb)); clear hb))
  go_ret
  exact ⟨rfl, HB.out⟩
theorem S15 {W : World} {B1 B2 : Nat} {p : El} {E : Addr} (h1 : ElAt W B1 p) (h2 : ElAt W B2 p) (h3 : W.cell? E = some (.string p.f0) ∧ W.cell? ⟨E.block, E.off + 1, none⟩ = some (.string p.f1) ∧ W.cell? ⟨E.block, E.off + 2, none⟩ = some (.string p.f2) ∧ W.cell? ⟨E.block, E.off + 3, none⟩ = some (.int .u32 p.f3) ∧ W.cell? ⟨E.block, E.off + 4, none⟩ = some (.bool p.f4)) : W.cell? ⟨B1, 0, none⟩ = some (.string p.f0) ∧ W.cell? ⟨B1, 1, none⟩ = some (.string p.f1) ∧ W.cell? ⟨B1, 2, none⟩ = some (.string p.f2) ∧ W.cell? ⟨B1, 3, none⟩ = some (.int .u32 p.f3) ∧ W.cell? ⟨B1, 4, none⟩ = some (.bool p.f4) ∧ W.cell? ⟨B2, 0, none⟩ = some (.string p.f0) ∧ W.cell? ⟨B2, 1, none⟩ = some (.string p.f1) ∧ W.cell? ⟨B2, 2, none⟩ = some (.string p.f2) ∧ W.cell? ⟨B2, 3, none⟩ = some (.int .u32 p.f3) ∧ W.cell? ⟨B2, 4, none⟩ = some (.bool p.f4) ∧ W.cell? (E) = some (.string p.f0) ∧ W.cell? ⟨(E).block, (E).off + 1, none⟩ = some (.string p.f1) ∧ W.cell? ⟨(E).block, (E).off + 2, none⟩ = some (.string p.f2) ∧ W.cell? ⟨(E).block, (E).off + 3, none⟩ = some (.int .u32 p.f3) ∧ W.cell? ⟨(E).block, (E).off + 4, none⟩ = some (.bool p.f4) := ⟨h1.cell 0, h1.cell 1, h1.cell 2, h1.cell 3, h1.cell 4, h2.cell 0, h2.cell 1, h2.cell 2, h2.cell 3, h2.cell 4, h3⟩
theorem cell_bl {w w' : World} {p : Addr} {v : Value} (h : w.cell? p = some v) (hb : Bl w w') : w'.cell? p = some v := (hb.below.cell (World.block_lt_of_cell? _ _ h)).trans h
theorem S15_bl {W W' : World} {B1 B2 : Nat} {p : El} {E : Addr} (h : W.cell? ⟨B1, 0, none⟩ = some (.string p.f0) ∧ W.cell? ⟨B1, 1, none⟩ = some (.string p.f1) ∧ W.cell? ⟨B1, 2, none⟩ = some (.string p.f2) ∧ W.cell? ⟨B1, 3, none⟩ = some (.int .u32 p.f3) ∧ W.cell? ⟨B1, 4, none⟩ = some (.bool p.f4) ∧ W.cell? ⟨B2, 0, none⟩ = some (.string p.f0) ∧ W.cell? ⟨B2, 1, none⟩ = some (.string p.f1) ∧ W.cell? ⟨B2, 2, none⟩ = some (.string p.f2) ∧ W.cell? ⟨B2, 3, none⟩ = some (.int .u32 p.f3) ∧ W.cell? ⟨B2, 4, none⟩ = some (.bool p.f4) ∧ W.cell? (E) = some (.string p.f0) ∧ W.cell? ⟨(E).block, (E).off + 1, none⟩ = some (.string p.f1) ∧ W.cell? ⟨(E).block, (E).off + 2, none⟩ = some (.string p.f2) ∧ W.cell? ⟨(E).block, (E).off + 3, none⟩ = some (.int .u32 p.f3) ∧ W.cell? ⟨(E).block, (E).off + 4, none⟩ = some (.bool p.f4)) (hb : Bl W W') : W'.cell? ⟨B1, 0, none⟩ = some (.string p.f0) ∧ W'.cell? ⟨B1, 1, none⟩ = some (.string p.f1) ∧ W'.cell? ⟨B1, 2, none⟩ = some (.string p.f2) ∧ W'.cell? ⟨B1, 3, none⟩ = some (.int .u32 p.f3) ∧ W'.cell? ⟨B1, 4, none⟩ = some (.bool p.f4) ∧ W'.cell? ⟨B2, 0, none⟩ = some (.string p.f0) ∧ W'.cell? ⟨B2, 1, none⟩ = some (.string p.f1) ∧ W'.cell? ⟨B2, 2, none⟩ = some (.string p.f2) ∧ W'.cell? ⟨B2, 3, none⟩ = some (.int .u32 p.f3) ∧ W'.cell? ⟨B2, 4, none⟩ = some (.bool p.f4) ∧ W'.cell? (E) = some (.string p.f0) ∧ W'.cell? ⟨(E).block, (E).off + 1, none⟩ = some (.string p.f1) ∧ W'.cell? ⟨(E).block, (E).off + 2, none⟩ = some (.string p.f2) ∧ W'.cell? ⟨(E).block, (E).off + 3, none⟩ = some (.int .u32 p.f3) ∧ W'.cell? ⟨(E).block, (E).off + 4, none⟩ = some (.bool p.f4) := by
  obtain ⟨a0, a1, a2, a3, a4, b0, b1, b2, b3, b4, c0, c1, c2, c3, c4⟩ := h
  exact ⟨cell_bl a0 hb, cell_bl a1 hb, cell_bl a2 hb, cell_bl a3 hb, cell_bl a4 hb, cell_bl b0 hb, cell_bl b1 hb, cell_bl b2 hb, cell_bl b3 hb, cell_bl b4 hb, cell_bl c0 hb, cell_bl c1 hb, cell_bl c2 hb, cell_bl c3 hb, cell_bl c4 hb⟩
theorem S16 {W : World} {B1 B2 : Nat} {p q : El} {E F : Addr} (h : W.cell? ⟨B1, 0, none⟩ = some (.string p.f0) ∧ W.cell? ⟨B1, 1, none⟩ = some (.string p.f1) ∧ W.cell? ⟨B1, 2, none⟩ = some (.string p.f2) ∧ W.cell? ⟨B1, 3, none⟩ = some (.int .u32 p.f3) ∧ W.cell? ⟨B1, 4, none⟩ = some (.bool p.f4) ∧ W.cell? ⟨B2, 0, none⟩ = some (.string p.f0) ∧ W.cell? ⟨B2, 1, none⟩ = some (.string p.f1) ∧ W.cell? ⟨B2, 2, none⟩ = some (.string p.f2) ∧ W.cell? ⟨B2, 3, none⟩ = some (.int .u32 p.f3) ∧ W.cell? ⟨B2, 4, none⟩ = some (.bool p.f4) ∧ W.cell? (E) = some (.string p.f0) ∧ W.cell? ⟨(E).block, (E).off + 1, none⟩ = some (.string p.f1) ∧ W.cell? ⟨(E).block, (E).off + 2, none⟩ = some (.string p.f2) ∧ W.cell? ⟨(E).block, (E).off + 3, none⟩ = some (.int .u32 p.f3) ∧ W.cell? ⟨(E).block, (E).off + 4, none⟩ = some (.bool p.f4)) (h2 : W.cell? F = some (.string q.f0)) : W.cell? ⟨B1, 0, none⟩ = some (.string p.f0) ∧ W.cell? ⟨B1, 1, none⟩ = some (.string p.f1) ∧ W.cell? ⟨B1, 2, none⟩ = some (.string p.f2) ∧ W.cell? ⟨B1, 3, none⟩ = some (.int .u32 p.f3) ∧ W.cell? ⟨B1, 4, none⟩ = some (.bool p.f4) ∧ W.cell? ⟨B2, 0, none⟩ = some (.string p.f0) ∧ W.cell? ⟨B2, 1, none⟩ = some (.string p.f1) ∧ W.cell? ⟨B2, 2, none⟩ = some (.string p.f2) ∧ W.cell? ⟨B2, 3, none⟩ = some (.int .u32 p.f3) ∧ W.cell? ⟨B2, 4, none⟩ = some (.bool p.f4) ∧ W.cell? (E) = some (.string p.f0) ∧ W.cell? ⟨(E).block, (E).off + 1, none⟩ = some (.string p.f1) ∧ W.cell? ⟨(E).block, (E).off + 2, none⟩ = some (.string p.f2) ∧ W.cell? ⟨(E).block, (E).off + 3, none⟩ = some (.int .u32 p.f3) ∧ W.cell? ⟨(E).block, (E).off + 4, none⟩ = some (.bool p.f4) ∧ W.cell? (F) = some (.string q.f0) := by
  obtain ⟨a0, a1, a2, a3, a4, b0, b1, b2, b3, b4, c0, c1, c2, c3, c4⟩ := h
  exact ⟨a0, a1, a2, a3, a4, b0, b1, b2, b3, b4, c0, c1, c2, c3, c4, h2⟩
theorem S16_bl {W W' : World} {B1 B2 : Nat} {p q : El} {E F : Addr} (h : W.cell? ⟨B1, 0, none⟩ = some (.string p.f0) ∧ W.cell? ⟨B1, 1, none⟩ = some (.string p.f1) ∧ W.cell? ⟨B1, 2, none⟩ = some (.string p.f2) ∧ W.cell? ⟨B1, 3, none⟩ = some (.int .u32 p.f3) ∧ W.cell? ⟨B1, 4, none⟩ = some (.bool p.f4) ∧ W.cell? ⟨B2, 0, none⟩ = some (.string p.f0) ∧ W.cell? ⟨B2, 1, none⟩ = some (.string p.f1) ∧ W.cell? ⟨B2, 2, none⟩ = some (.string p.f2) ∧ W.cell? ⟨B2, 3, none⟩ = some (.int .u32 p.f3) ∧ W.cell? ⟨B2, 4, none⟩ = some (.bool p.f4) ∧ W.cell? (E) = some (.string p.f0) ∧ W.cell? ⟨(E).block, (E).off + 1, none⟩ = some (.string p.f1) ∧ W.cell? ⟨(E).block, (E).off + 2, none⟩ = some (.string p.f2) ∧ W.cell? ⟨(E).block, (E).off + 3, none⟩ = some (.int .u32 p.f3) ∧ W.cell? ⟨(E).block, (E).off + 4, none⟩ = some (.bool p.f4) ∧ W.cell? (F) = some (.string q.f0)) (hb : Bl W W') : W'.cell? ⟨B1, 0, none⟩ = some (.string p.f0) ∧ W'.cell? ⟨B1, 1, none⟩ = some (.string p.f1) ∧ W'.cell? ⟨B1, 2, none⟩ = some (.string p.f2) ∧ W'.cell? ⟨B1, 3, none⟩ = some (.int .u32 p.f3) ∧ W'.cell? ⟨B1, 4, none⟩ = some (.bool p.f4) ∧ W'.cell? ⟨B2, 0, none⟩ = some (.string p.f0) ∧ W'.cell? ⟨B2, 1, none⟩ = some (.string p.f1) ∧ W'.cell? ⟨B2, 2, none⟩ = some (.string p.f2) ∧ W'.cell? ⟨B2, 3, none⟩ = some (.int .u32 p.f3) ∧ W'.cell? ⟨B2, 4, none⟩ = some (.bool p.f4) ∧ W'.cell? (E) = some (.string p.f0) ∧ W'.cell? ⟨(E).block, (E).off + 1, none⟩ = some (.string p.f1) ∧ W'.cell? ⟨(E).block, (E).off + 2, none⟩ = some (.string p.f2) ∧ W'.cell? ⟨(E).block, (E).off + 3, none⟩ = some (.int .u32 p.f3) ∧ W'.cell? ⟨(E).block, (E).off + 4, none⟩ = some (.bool p.f4) ∧ W'.cell? (F) = some (.string q.f0) := by
  obtain ⟨a0, a1, a2, a3, a4, b0, b1, b2, b3, b4, c0, c1, c2, c3, c4, d0⟩ := h
  exact ⟨cell_bl a0 hb, cell_bl a1 hb, cell_bl a2 hb, cell_bl a3 hb, cell_bl a4 hb, cell_bl b0 hb, cell_bl b1 hb, cell_bl b2 hb, cell_bl b3 hb, cell_bl b4 hb, cell_bl c0 hb, cell_bl c1 hb, cell_bl c2 hb, cell_bl c3 hb, cell_bl c4 hb, cell_bl d0 hb⟩
theorem next_up {ls : List El} {k j : Nat} {p q : El} (hu : Up nm ls) (hp : p = rd_T24 ls ((j + 1 : Nat) : Int)) (hq : q = rd_T24 ls (j : Int)) (hl : j + 1 < ls.length) : Op.bytesLess p.f0.toList q.f0.toList = false ∧ (p.f0.toList == q.f0.toList) = false := by
  have e1 : rd_T24 ls ((j + 1 : Nat) : Int) = ls[j + 1] := by unfold rd_T24; rw [Int.toNat_natCast, List.getD_eq_getElem?_getD, List.getElem?_eq_getElem hl]; rfl
  have e2 : rd_T24 ls (j : Int) = ls[j] := by unfold rd_T24; rw [Int.toNat_natCast, List.getD_eq_getElem?_getD, List.getElem?_eq_getElem (by omega)]; rfl
  have h := List.pairwise_iff_getElem.mp hu j (j + 1) (by omega) hl (by omega)
  subst hp hq
  rw [e1, e2, less_of]
  refine ⟨lt_asymm h, ?_⟩
  refine (str_nes (fun e => ?_)).1
  rw [show nm ls[j] = ls[j].f0 from rfl, show nm ls[j + 1] = ls[j + 1].f0 from rfl, e, lt_irrefl] at h
  exact absurd h (by simp)
set_option maxRecDepth 100000 in
set_option maxHeartbeats 64000000 in
theorem RecordBoth_ok (a0 : Int) (A1 : Option Addr) (c1 : Nat) (ll : List St) (w : World) (l0 : 0 ≤ a0) (u0 : a0 ≤ 255) (hs : Kd.C k60 w A1 ll.length ll) (hc1 : ll.length ≤ c1) (hn : ∀ x ∈ ll, x.f1.f0.size ≤ 140737488351232 ∧ 0 ≤ x.f1.f3 ∧ x.f1.f3 < 4294967296) (n60 : ll.length ≤ 60) (ms : List El) (hof : halyardlaw28_of.f 300 ll = some ms) (hl2 : halyardlaw28_Long.f 300 ms = some false) :
    Calls Try.prog 5 #[.int .u8 a0, .slice A1 ll.length c1] w (AliveRet w) := by
  have HS := Aside0.mk hs
  have HS0 := Aside0.mk hs
  have HC1 := Aside0.mk hc1
  have HN := Aside0.mk hn
  have HB := Aside0.mk (Below.refl w.heap.size w)
  have huE := Try.underlying24
  have huS := Try.underlying60
  have hw1 : IntKind.i64.wrap (1 + a0) = 1 + a0 := IntWalk.i64_in _ (by omega)
  have m60 : ¬ (60 : Int) < (ll.length : Int) := by omega
  have HOF := Aside0.mk hof
  have HL2 := Aside0.mk hl2
  clear hs hc1 hn hof hl2
  go_enter Try.func5, Try.ntmps5
  go_wp2_with (first
    | (go_at_call 20; go_must (refine (halyardlaw28_of.calls 300 A1 c1 ll ms _ HS.out HC1.out HOF.out).mono ?_); go_must (rintro e w2 ⟨v_, rfl, hr_, hb_⟩; obtain ⟨A2, c2, rfl, hc2_, hC2_⟩ := Kd.R_reads hr_; have HR2 := Aside0.mk hC2_; have HC2 := Aside0.mk hc2_; replace HB := Aside0.mk (below_step HB.out hb_); replace HS := Aside0.mk (Kd.C_below HS.out hb_)); clear hr_ hb_ hC2_ hc2_)
    | (go_at_call 8; go_must (refine (halyardlaw28_Long.calls 300 A2 c2 ms false _ HR2.out HC2.out HL2.out).mono ?_); go_must (rintro e w3 ⟨rfl, hd⟩; replace HB := Aside0.mk (below_step HB.out (drawn_below hd)); replace HS := Aside0.mk (Kd.C_below HS.out (drawn_below hd))); clear hd)
    | (go_at_call 21; go_must (refine (NewYes (1 + a0) _ (by omega) (by omega)).mono ?_); go_must (rintro e w5 ⟨g, b, c, rfl, hF, hg1, hb1, hc1, hb⟩; have J0 := Aside0.mk (show At1 w w5 g b c (1 + a0) [] from ⟨hF, ok0 (by omega) (by omega), below_step HB.out hb, Nat.le_trans HB.out.size hb1, Nat.le_trans HB.out.size hc1⟩)); clear hF hb))
  go_loopg [7] ll.length (fun gk v7 wr => ∃ (i : Nat) (ls : List El), i ≤ ll.length ∧ gk = ll.length - i ∧ v7 = .int .i64 (i : Int) ∧ Aside0 (At1 w wr g b c (1 + a0) ls))
  case atStart => exact ⟨0, [], by omega, by omega, rfl, J0⟩
  case round =>
    clear J0 HB HS HR2 HC2 HL2 HOF
    obtain ⟨i, l1, hi, rfl, rfl, J⟩ := hrel
    have HSr := Aside0.mk (Kd.C_below HS0.out J.out.2.2.1)
    by_cases hlt : i < ll.length
    · obtain ⟨x, hx⟩ : ∃ x, x = rd_T60 ll i := ⟨_, rfl⟩
      obtain ⟨ad, rfl, q0, q1, q2, q3, q4, q5⟩ := at_T60 HSr.out (i : Int) (by omega) (by omega)
      rw [← hx, Int.toNat_natCast] at q0 q1 q2 q3 q4 q5
      have hxm : x ∈ ll := by
        rw [hx]; unfold rd_T60
        rw [Int.toNat_natCast, List.getD_eq_getElem?_getD, List.getElem?_eq_getElem hlt]
        exact List.getElem_mem _
      obtain ⟨xs, xa, xb⟩ := HN.out x hxm
      clear hx hxm
      have hbl := J.out.1.lt.1
      have hcl := J.out.1.lt.2
      go_upto_block 2 with (go_at_call 22; go_must (refine (List_ (J.out.alloc (Obj.cells #[Value.int IntKind.i64 x.f0, Value.string x.f1.f0, Value.string x.f1.f1, Value.string x.f1.f2, Value.int IntKind.u32 x.f1.f3, Value.bool x.f1.f4] 60)).1 J.out.2.1).mono ?_); go_must (rintro e w9 ⟨v, rfl, hrow, hb⟩; obtain ⟨ar, cap, rfl, hcap, hC, hblk⟩ := C_of_own hrow; have HX := Aside0.mk (StAt.below (show StAt (wr.alloc (Obj.cells #[Value.int IntKind.i64 x.f0, Value.string x.f1.f0, Value.string x.f1.f1, Value.string x.f1.f2, Value.int IntKind.u32 x.f1.f3, Value.bool x.f1.f4] 60)) wr.heap.size x from World.alloc_heap_new wr _) hb); have HR := Aside0.mk hC; have HP := Aside0.mk hcap; have HNE := Aside0.mk (show ∀ a, ar = some a → a.block ≠ b ∧ a.block ≠ c from fun a e => by have z := (hblk a e).1; simp at z; omega); replace J := Aside0.mk ((J.out.alloc (Obj.cells #[Value.int IntKind.i64 x.f0, Value.string x.f1.f0, Value.string x.f1.f1, Value.string x.f1.f2, Value.int IntKind.u32 x.f1.f3, Value.bool x.f1.f4] 60)).below hb); obtain ⟨x0, x1, x2, x3, x4, x5⟩ := HX.out.cells); clear hrow hC hblk hcap hb)
      have hxb : wr.heap.size ≠ b := Nat.ne_of_gt hbl
      have hxc : wr.heap.size ≠ c := Nat.ne_of_gt hcl
      go_cut [10] (fun v10 wx => ∃ (G : Int) (l2 : List El), v10 = .int .i64 G ∧ Aside0 (At1 w wx g b c (1 + a0) l2) ∧ Aside0 (Kd.C k24 wx ar l1.length l1) ∧ Aside0 (G = 0 ∨ l2 = l1))
      case first =>
        clear HSr q0 q1 q2 q3 q4 q5
        by_cases d0 : x.f0 = 0
        · have e0 : (x.f0 == 0) = true := beq_iff_eq.mpr d0
          clear d0
          obtain ⟨K, hK⟩ : ∃ K, putK (1 + a0) l1 x.f1 = K := ⟨_, rfl⟩
          by_cases k0 : K = 0
          · subst k0
            have HK := Aside0.mk hK
            have HY := Aside0.mk (at_put J.out.2.1 xa xb hK)
            clear hK
            as_aux_lemma =>
              go_wp2_with (first
                | (go_at_call 23; go_must (refine (PutIs J.out.1 J.out.2.1 xs xa xb HK.out).mono ?_); go_must (rintro e w5 ⟨rfl, hF, hk⟩; have J5 := Aside0.mk (J.out.k2 hF (J.out.2.1.put x.f1 xa xb) hk); have HX5 := Aside0.mk (HX.out.k2 hk hxb hxc); have HR5 := Aside0.mk (C_k2 HR.out hk HNE.out); clear x0 x1 x2 x3 x4 x5; obtain ⟨x0, x1, x2, x3, x4, x5⟩ := HX5.out.cells; have zx := blk_lt HX5.out); clear hF hk)
                | (go_at_call 24; go_must (refine (At (y := x.f1) (is := true) J5.out.1 J5.out.2.1.v xa xb HY.out).mono ?_); go_must (rintro e w6 ⟨rfl, hb⟩; have J6 := Aside0.mk (J5.out.below hb); have HX6 := Aside0.mk (HX5.out.below hb); have HR6 := Aside0.mk (Kd.C_below HR5.out hb); clear x0 x1 x2 x3 x4 x5; obtain ⟨x0, x1, x2, x3, x4, x5⟩ := HX6.out.cells; have zx := blk_lt HX6.out); clear hb))
              go_meet
              exact ⟨0, _, rfl, ⟨(by repeat (first | (with_reducible exact J6.out) | (with_reducible apply At1.alloc) | (with_reducible apply At1.drew)))⟩, ⟨(by repeat (first | (with_reducible exact HR6.out) | (with_reducible apply C_alloc)))⟩, ⟨Or.inl rfl⟩⟩
          · by_cases k9 : K = 9
            · subst k9
              clear k0
              obtain ⟨y, hy1, hy2⟩ := at_clash J.out.2.1 hK
              obtain ⟨n1, n2⟩ := str_nes hy2
              have HK := Aside0.mk hK
              have HY := Aside0.mk hy1
              have HP2 := Aside0.mk (putF_no (ls := l1) (x := x.f1) (most := 1 + a0) (by rw [hK]; decide))
              clear hK hy1 hy2
              as_aux_lemma =>
                go_wp2_with (first
                  | (go_at_call 23; go_must (refine (PutIs J.out.1 J.out.2.1 xs xa xb HK.out).mono ?_); go_must (rintro e w5 ⟨rfl, hF, hk⟩; have J5 := Aside0.mk (J.out.k2 hF (J.out.2.1.put x.f1 xa xb) hk); have HX5 := Aside0.mk (HX.out.k2 hk hxb hxc); have HR5 := Aside0.mk (C_k2 HR.out hk HNE.out); clear x0 x1 x2 x3 x4 x5; obtain ⟨x0, x1, x2, x3, x4, x5⟩ := HX5.out.cells; have zx := blk_lt HX5.out); clear hF hk)
                  | (go_at_call 24; go_must (refine (At (y := y) (is := true) J5.out.1 J5.out.2.1.v xa xb HY.out).mono ?_); go_must (rintro e w6 ⟨rfl, hb⟩; have J6 := Aside0.mk (J5.out.below hb); have HX6 := Aside0.mk (HX5.out.below hb); have HR6 := Aside0.mk (Kd.C_below HR5.out hb); clear x0 x1 x2 x3 x4 x5; obtain ⟨x0, x1, x2, x3, x4, x5⟩ := HX6.out.cells; have zx := blk_lt HX6.out); clear hb))
                go_meet
                exact ⟨9, _, rfl, ⟨(by repeat (first | (with_reducible exact J6.out) | (with_reducible apply At1.alloc) | (with_reducible apply At1.drew)))⟩, ⟨(by repeat (first | (with_reducible exact HR6.out) | (with_reducible apply C_alloc)))⟩, ⟨Or.inr HP2.out⟩⟩
            · have b0 : (K == 0) = false := beq_eq_false_iff_ne.mpr k0
              have b9 : (K == 9) = false := beq_eq_false_iff_ne.mpr k9
              obtain ⟨⟨y, is⟩, hy⟩ : ∃ p, atP (putF (1 + a0) l1 x.f1) x.f1.f3 = p := ⟨_, rfl⟩
              have HK := Aside0.mk hK
              have HY := Aside0.mk hy
              have HP2 := Aside0.mk (putF_no (ls := l1) (x := x.f1) (most := 1 + a0) (by rw [hK]; exact k0))
              clear hK hy k0 k9
              as_aux_lemma =>
                go_wp2_with (first
                  | (go_at_call 23; go_must (refine (PutIs J.out.1 J.out.2.1 xs xa xb HK.out).mono ?_); go_must (rintro e w5 ⟨rfl, hF, hk⟩; have J5 := Aside0.mk (J.out.k2 hF (J.out.2.1.put x.f1 xa xb) hk); have HX5 := Aside0.mk (HX.out.k2 hk hxb hxc); have HR5 := Aside0.mk (C_k2 HR.out hk HNE.out); clear x0 x1 x2 x3 x4 x5; obtain ⟨x0, x1, x2, x3, x4, x5⟩ := HX5.out.cells; have zx := blk_lt HX5.out); clear hF hk)
                  | (go_at_call 24; go_must (refine (At (y := y) (is := is) J5.out.1 J5.out.2.1.v xa xb HY.out).mono ?_); go_must (rintro e w6 ⟨rfl, hb⟩; have J6 := Aside0.mk (J5.out.below hb); have HX6 := Aside0.mk (HX5.out.below hb); have HR6 := Aside0.mk (Kd.C_below HR5.out hb); clear x0 x1 x2 x3 x4 x5; obtain ⟨x0, x1, x2, x3, x4, x5⟩ := HX6.out.cells; have zx := blk_lt HX6.out); clear hb))
                go_meet
                exact ⟨K, _, rfl, ⟨(by repeat (first | (with_reducible exact J6.out) | (with_reducible apply At1.alloc) | (with_reducible apply At1.drew)))⟩, ⟨(by repeat (first | (with_reducible exact HR6.out) | (with_reducible apply C_alloc)))⟩, ⟨Or.inr HP2.out⟩⟩
        · have e0 : (x.f0 == 0) = false := beq_eq_false_iff_ne.mpr d0
          by_cases d1 : x.f0 = 1
          · have e1 : (x.f0 == 1) = true := beq_iff_eq.mpr d1
            clear d0 d1
            obtain ⟨K, hK⟩ : ∃ K, delK l1 x.f1.f0 = K := ⟨_, rfl⟩
            have HK := Aside0.mk hK
            have HY := Aside0.mk (of_del J.out.2.1.v x.f1.f0)
            have HP2 := Aside0.mk (show K = 0 ∨ del nm l1 x.f1.f0 = l1 by
              by_cases h : K = 0
              · exact Or.inl h
              · exact Or.inr (del_no (by rw [hK]; exact h)))
            clear hK
            as_aux_lemma =>
              go_wp2_with (first
                | (go_at_call 25; go_must (refine (DelIs J.out.1 J.out.2.1.v xs HK.out).mono ?_); go_must (rintro e w5 ⟨rfl, hF, hk⟩; have J5 := Aside0.mk (J.out.k2 hF (J.out.2.1.del x.f1.f0) hk); have HX5 := Aside0.mk (HX.out.k2 hk hxb hxc); have HR5 := Aside0.mk (C_k2 HR.out hk HNE.out); clear x0 x1 x2 x3 x4 x5; obtain ⟨x0, x1, x2, x3, x4, x5⟩ := HX5.out.cells; have zx := blk_lt HX5.out); clear hF hk)
                | (go_at_call 26; go_must (refine (Of (y := z24) (is := false) J5.out.1 xs HY.out).mono ?_); go_must (rintro e w6 ⟨rfl, hb⟩; have J6 := Aside0.mk (J5.out.below hb); have HX6 := Aside0.mk (HX5.out.below hb); have HR6 := Aside0.mk (Kd.C_below HR5.out hb); clear x0 x1 x2 x3 x4 x5; obtain ⟨x0, x1, x2, x3, x4, x5⟩ := HX6.out.cells; have zx := blk_lt HX6.out); clear hb))
              go_meet
              exact ⟨K, _, rfl, ⟨(by repeat (first | (with_reducible exact J6.out) | (with_reducible apply At1.alloc) | (with_reducible apply At1.drew)))⟩, ⟨(by repeat (first | (with_reducible exact HR6.out) | (with_reducible apply C_alloc)))⟩, HP2⟩
          · have e1 : (x.f0 == 1) = false := beq_eq_false_iff_ne.mpr d1
            clear d0 d1
            as_aux_lemma =>
              go_wp2_with fail
              go_meet
              exact ⟨0, l1, rfl, J, HR, ⟨Or.inl rfl⟩⟩
      case rest =>
        obtain ⟨G, l2, rfl, J2, R1, HG2⟩ := hcut
        clear J HX HR x0 x1 x2 x3 x4 x5 hxb hxc
        have hle : (l2.length : Int) ≤ 1 + a0 := J2.out.2.1.len
        have hd : decide (1 + a0 < (l2.length : Int)) = false := decide_eq_false (by omega)
        go_upto_region 24 with (go_at_call 22; go_must (refine (List_ J2.out.1 J2.out.2.1).mono ?_); go_must (rintro e w11 ⟨v, rfl, hrow, hb⟩; obtain ⟨ar2, cap2, rfl, hcap2, hC2, hblk2⟩ := C_of_own hrow; have J3 := Aside0.mk (J2.out.below hb); have R2 := Aside0.mk hC2; have P2 := Aside0.mk hcap2; have R3 := Aside0.mk (Kd.C_below R1.out hb)); clear hrow hC2 hblk2 hcap2 hb)
        go_cut [139] (fun v139 wx => v139 = .bool false ∧ Aside0 (At1 w wx g b c (1 + a0) l2) ∧ Aside0 (Kd.C k24 wx ar2 l2.length l2))
        case first =>
          by_cases g0 : G = 0
          · subst g0
            as_aux_lemma =>
              go_wp2_with (go_at_call 28; go_must (refine (Len _ _ _ _ _ _ J3.out.1).mono ?_); go_must (rintro e w12 ⟨rfl, hb⟩; have J4 := Aside0.mk (J3.out.below hb); have R4 := Aside0.mk (Kd.C_below R2.out hb)); clear hb)
              go_meet
              exact ⟨by first | rfl | exact congrArg Value.bool hd, J4, R4⟩
          · have b0 : (G == 0) = false := beq_eq_false_iff_ne.mpr g0
            obtain rfl : l2 = l1 := HG2.out.resolve_left g0
            have hz := Aside0.mk (show l2.length ≤ 100000 by omega)
            as_aux_lemma =>
              go_wp2_with (first
                | (go_at_call 27; go_must (refine (sameAll R2.out P2.out R3.out HP.out hz.out).mono ?_); go_must (rintro e w13 ⟨rfl, hb⟩; have J3' := Aside0.mk (J3.out.below hb); have R2' := Aside0.mk (Kd.C_below R2.out hb)); clear hb)
                | (go_at_call 28; go_must (refine (Len _ _ _ _ _ _ J3'.out.1).mono ?_); go_must (rintro e w12 ⟨rfl, hb⟩; have J4 := Aside0.mk (J3'.out.below hb); have R4 := Aside0.mk (Kd.C_below R2'.out hb)); clear hb))
              go_meet
              exact ⟨by first | rfl | exact congrArg Value.bool hd, J4, R4⟩
        case rest =>
          obtain ⟨rfl, J4, R4⟩ := hcut
          clear J2 J3 R1 R2 R3 HP HG2 HNE
          go_wp2_with fail
          go_loopg [16] l2.length (fun gk v16 ws => ∃ k : Nat, k ≤ l2.length ∧ gk = l2.length - k ∧ v16 = .int .i64 (k : Int) ∧ Aside0 (At1 w ws g b c (1 + a0) l2) ∧ Aside0 (Kd.C k24 ws ar2 l2.length l2))
          case atStart => exact ⟨0, by omega, by omega, rfl, J4, R4⟩
          case round =>
            clear J4 R4
            obtain ⟨k, hk, rfl, rfl, J, R⟩ := hrel
            by_cases hlk : k < l2.length
            · obtain ⟨p, hp⟩ : ∃ p, p = rd_T24 l2 k := ⟨_, rfl⟩
              obtain ⟨ad2, rfl, q0, q1, q2, q3, q4⟩ := at_T24 R.out (k : Int) (by omega) (by omega)
              rw [← hp, Int.toNat_natCast] at q0 q1 q2 q3 q4
              have hpm : p ∈ l2 := by
                rw [hp]; unfold rd_T24
                rw [Int.toNat_natCast, List.getD_eq_getElem?_getD, List.getElem?_eq_getElem hlk]
                exact List.getElem_mem _
              have HO := Aside0.mk (of_mem J.out.2.1.v hpm)
              have HA := Aside0.mk (at_mem J.out.2.1.v hpm)
              have hrg := J.out.2.1.v.rg p hpm
              have hok := J.out.2.1.v.ok p hpm
              have hsz : p.f0.size ≤ 140737488351232 := by unfold okS at hok; simp at hok; omega
              have HCK := Aside0.mk (show record_Check.f p.f0 p.f1 p.f2 p.f3 p.f4 = some 0 by rw [check_ok, if_pos hok])
              obtain ⟨p0, p1⟩ := hrg
              clear hok
              have HPE := Aside0.mk hp
              clear hp hpm
              go_upto_region 31 with (first
                | (go_at_call 26; go_must (refine (Of (y := p) (is := true) J.out.1 hsz HO.out).mono ?_); go_must (rintro e w13 ⟨rfl, hb⟩; have J5 := Aside0.mk ((J.out.below hb).alloc (Obj.cells #[Value.string p.f0, Value.string p.f1, Value.string p.f2, Value.int IntKind.u32 p.f3, Value.bool p.f4] 24)); have R5 := Aside0.mk (C_alloc (Kd.C_below R.out hb) (Obj.cells #[Value.string p.f0, Value.string p.f1, Value.string p.f2, Value.int IntKind.u32 p.f3, Value.bool p.f4] 24)); have X5 := Aside0.mk (elAt_new w13 p); clear q0 q1 q2 q3 q4; obtain ⟨ad3, ea2, q0, q1, q2, q3, q4⟩ := at_T24 R5.out (k : Int) (by omega) (by omega); cases ea2; rw [← HPE.out, Int.toNat_natCast] at q0 q1 q2 q3 q4); clear hb)
                | (go_at_call 24; go_must (refine (At (y := p) (is := true) J5.out.1 J5.out.2.1.v p0 p1 HA.out).mono ?_); go_must (rintro e w14 ⟨rfl, hb⟩; have J6 := Aside0.mk ((J5.out.below hb).alloc (Obj.cells #[Value.string p.f0, Value.string p.f1, Value.string p.f2, Value.int IntKind.u32 p.f3, Value.bool p.f4] 24)); have R6 := Aside0.mk (C_alloc (Kd.C_below R5.out hb) (Obj.cells #[Value.string p.f0, Value.string p.f1, Value.string p.f2, Value.int IntKind.u32 p.f3, Value.bool p.f4] 24)); have X6 := Aside0.mk ((elAt_call X5.out hb).alloc (Obj.cells #[Value.string p.f0, Value.string p.f1, Value.string p.f2, Value.int IntKind.u32 p.f3, Value.bool p.f4] 24)); have Y6 := Aside0.mk (elAt_new w14 p); clear q0 q1 q2 q3 q4; obtain ⟨ad3, ea2, q0, q1, q2, q3, q4⟩ := at_T24 R6.out (k : Int) (by omega) (by omega); cases ea2; rw [← HPE.out, Int.toNat_natCast] at q0 q1 q2 q3 q4); clear hb))
              have hS0 := S15 X6.out Y6.out ⟨q0, q1, q2, q3, q4⟩
              clear q0 q1 q2 q3 q4 X6 Y6 X5 R5 J5
              generalize w14.alloc (Obj.cells #[Value.string p.f0, Value.string p.f1, Value.string p.f2, Value.int IntKind.u32 p.f3, Value.bool p.f4] 24) = wz at J6 R6 hS0 ⊢
              by_cases hk0 : k = 0
              · have hk1 : decide ((0 : Int) < (k : Int)) = false := decide_eq_false (by omega)
                have hk2 : decide (0 < k) = false := decide_eq_false (by omega)
                obtain ⟨x0, x1, x2, x3, x4, y0, y1, y2, y3, y4, q0, q1, q2, q3, q4⟩ := hS0
                clear hk0
                refine wp_region_still_tail 45 (by kernel_rfl) (by kernel_rfl) ?_
                simp only [List.take_succ_cons, List.take_zero, List.drop_succ_cons, List.drop_zero]
                refine Go.Proofs.YtmgpaccgjafjeaaHQ.still_of_quiet (C := fun w' => ∃ n, w' = wz.drewN n) ⟨1, rfl⟩ _ _ (by intro o ho; revert o; simp [Go.Proofs.YtmgpaccgjafjeaaHQ.plainOp]) ?_
                repeat go_big_quiet_step (fail)
                refine wpQuiet_nil ?_
                change wpList _ _ _ _ _ wz.drew
                replace J6 := Aside0.mk (J6.out.below (below_drew (Below.refl _ _)))
                replace R6 := Aside0.mk (Kd.C_below R6.out (below_drew (Below.refl _ _)))
                go_wp2_with (go_at_call 29; go_must (refine (record_Check.calls _ _ _ _ _ 0 _ HCK.out).mono ?_); go_must (rintro e w15 ⟨rfl, hb'⟩; have hb := Bl.of hb'; replace J6 := Aside0.mk (J6.out.bl hb); replace R6 := Aside0.mk (Kd.C_below R6.out hb.below)); clear hb hb')
                go_roundg (l2.length - (k + 1))
                case measure => omega
                case rel => exact ⟨k + 1, by omega, rfl, by go_num, J6, R6⟩
              · obtain ⟨j, rfl⟩ : ∃ j, k = j + 1 := ⟨k - 1, by omega⟩
                have hk1 : decide ((0 : Int) < ((j + 1 : Nat) : Int)) = true := decide_eq_true (by omega)
                have hk2 : decide (0 < j + 1) = true := decide_eq_true (by omega)
                have hk3 : IntKind.i64.wrap (((j + 1 : Nat) : Int) - 1) = (j : Int) := by rw [IntWalk.i64_in _ (by omega)]; omega
                obtain ⟨q, hq⟩ : ∃ q, q = rd_T24 l2 j := ⟨_, rfl⟩
                obtain ⟨ad3, ea3, r0, _, _, _, _⟩ := at_T24 R6.out (j : Int) (by omega) (by omega)
                cases ea3
                rw [← hq, Int.toNat_natCast] at r0
                obtain ⟨d1, d2⟩ := next_up (k := 0) J6.out.2.1.v.up HPE.out hq hlk
                obtain ⟨x0, x1, x2, x3, x4, y0, y1, y2, y3, y4, q0, q1, q2, q3, q4⟩ := hS0
                clear hk0 hq
                refine wp_region_still_tail 45 (by kernel_rfl) (by kernel_rfl) ?_
                simp only [List.take_succ_cons, List.take_zero, List.drop_succ_cons, List.drop_zero]
                refine Go.Proofs.YtmgpaccgjafjeaaHQ.still_of_quiet (C := fun w' => ∃ n, w' = wz.drewN n) ⟨1, rfl⟩ _ _ (by intro o ho; revert o; simp [Go.Proofs.YtmgpaccgjafjeaaHQ.plainOp]) ?_
                repeat go_big_quiet_step (fail)
                refine wpQuiet_nil ?_
                change wpList _ _ _ _ _ wz.drew
                replace J6 := Aside0.mk (J6.out.below (below_drew (Below.refl _ _)))
                replace R6 := Aside0.mk (Kd.C_below R6.out (below_drew (Below.refl _ _)))
                go_wp2_with (go_at_call 29; go_must (refine (record_Check.calls _ _ _ _ _ 0 _ HCK.out).mono ?_); go_must (rintro e w15 ⟨rfl, hb'⟩; have hb := Bl.of hb'; replace J6 := Aside0.mk (J6.out.bl hb); replace R6 := Aside0.mk (Kd.C_below R6.out hb.below)); clear hb hb')
                go_roundg (l2.length - (j + 1 + 1))
                case measure => omega
                case rel => exact ⟨j + 1 + 1, by omega, rfl, by go_num, J6, R6⟩
            · go_wp2_with fail
              go_roundg (ll.length - (i + 1))
              case measure => omega
              case rel => exact ⟨i + 1, l2, by omega, rfl, by go_num, J⟩
    · go_wp2_with (first
        | (go_at_call 9; go_must (refine (alive _).mono ?_); rintro e w3 ⟨rfl, hb⟩; have HB := Aside0.mk (below_step J.out.2.2.1 hb); clear hb))
      go_ret
      exact ⟨rfl, HB.out⟩
theorem RecordBoth_run (a0 : Int) (A1 : Option Addr) (c1 : Nat) (ll : List St) (w : World) (l0 : 0 ≤ a0) (u0 : a0 ≤ 255) (hs : Kd.C k60 w A1 ll.length ll) (hc1 : ll.length ≤ c1) (hn : ∀ x ∈ ll, x.f1.f0.size ≤ 140737488351232 ∧ 0 ≤ x.f1.f3 ∧ x.f1.f3 < 4294967296) :
    Calls Try.prog 5 #[.int .u8 a0, .slice A1 ll.length c1] w (AliveRet w) := by
  by_cases n60 : ll.length ≤ 60
  · obtain ⟨b, hb, _⟩ := long_val (ll.map (·.f1))
    have hof := of_val ll (by omega)
    cases b with
    | true => exact RecordBoth_long a0 A1 c1 ll w l0 u0 hs hc1 hn n60 _ hof hb
    | false => exact RecordBoth_ok a0 A1 c1 ll w l0 u0 hs hc1 hn n60 _ hof hb
  · exact RecordBoth_many a0 A1 c1 ll w l0 u0 hs hc1 hn (by omega)
end Go.Proofs.YtmgpaccgjafjeaaHVR
