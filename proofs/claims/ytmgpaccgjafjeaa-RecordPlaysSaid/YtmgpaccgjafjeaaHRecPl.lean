/- RecordPlays: the walk. -/
import Derived.Test.YtmgpaccgjafjeaaHRecRefm
import Derived.Deep.DeepCutAuto
import Derived.Deep.RegionWith
import Derived.Deep.RegionHeld3
import Derived.IntWalk
import Derived.Outline
namespace Go.Proofs.YtmgpaccgjafjeaaHVR
open Go.RowKit Go.Maps Go.Sort Go.Shelf Go.Lib Go.Proofs.YtmgpaccgjafjeaaW.PrintWords Go.Proofs.YtmgpaccgjafjeaaHW Go.Proofs.YtmgpaccgjafjeaaHG Go.Proofs.Ytmgpaccgjafjeaa.PG28 Go.Proofs.YtmgpaccgjafjeaaHT
set_option linter.unusedVariables false
set_option linter.unusedSimpArgs false
theorem MapIs.blk {P : Program} {k : TypeId} {zv : Value} {w : World} {b : Nat} {M : Lit → Option Value} {c : Nat} (h : MapIs P k zv w b M c) : ∃ es clock, w.heap[b]? = some (.map es clock) := by
  obtain ⟨D, ⟨es, clock, h1, h2⟩, h3⟩ := h
  exact ⟨es, clock, h1⟩
theorem not_map {w : World} {b g : Nat} {t : TypeId} {fr : Nat × Nat} {cs : Array Value} (h : ∃ es clock, w.heap[b]? = some (.map es clock)) (h1 : w.heap[g]? = some (.cells cs t fr)) : g ≠ b := by
  obtain ⟨es, clk, hm⟩ := h
  rintro rfl
  rw [hm] at h1
  cases h1
/-- Blocks of the file's maps turn: the document's row stands. -/
theorem RefB.k2 {r g b c : Nat} {w w' : World} {most m2 : Int} {ls ms : List El} (h : RefB w r most ls) (hp : FileAt w g b c m2 ms) (hk : K2 b c w w') : RefB w' r most ls := by
  obtain ⟨v, h1, h2⟩ := h
  have mb := MapIs.blk hp.2.1
  have mc := MapIs.blk hp.2.2.1
  refine ⟨v, K2.block hk h1 (not_map mb h1) (not_map mc h1), ?_⟩
  have h3 := Kd.R_bound h2
  refine Kd.R_mono (Kd.R_step h3 (fun k ho hlt => ?_)) (fun k ho => ho.1)
  obtain ⟨_, _, _, q, _, cells, hc⟩ := ho
  exact hk.2.2.2.2 k hlt (not_map mb hc) (not_map mc hc)
/-- The document's own block turns: the file stands. -/
theorem FileAt.kbr {r g b c : Nat} {w w' : World} {most m2 : Int} {ls ms : List El} (hp : FileAt w g b c m2 ms) (h : RefB w r most ls) (hk : KB r w w') : FileAt w' g b c m2 ms := by
  obtain ⟨v, h1, h2⟩ := h
  have nb : b ≠ r := fun e => not_map (MapIs.blk hp.2.1) h1 e.symm
  have nc : c ≠ r := fun e => not_map (MapIs.blk hp.2.2.1) h1 e.symm
  have ng : g ≠ r := by
    rintro rfl
    rw [hp.1] at h1
    cases h1
  exact ⟨KB.block hk hp.1 ng, hp.2.1.heap (hk.2.2.2.2 b hp.2.1.lt nb), hp.2.2.1.heap (hk.2.2.2.2 c hp.2.2.1.lt nc), hp.2.2.2⟩
/-- Another file's maps turn: this one stands. -/
theorem FileAt.k2o {g b c g' b' c' : Nat} {w w' : World} {most m2 : Int} {ls ms : List El} (hp : FileAt w g b c most ls) (hq : FileAt w g' b' c' m2 ms) (hne : b ≠ b' ∧ b ≠ c' ∧ c ≠ b' ∧ c ≠ c') (hk : K2 b' c' w w') : FileAt w' g b c most ls :=
  ⟨K2.block hk hp.1 (not_map (MapIs.blk hq.2.1) hp.1) (not_map (MapIs.blk hq.2.2.1) hp.1), hp.2.1.heap (hk.2.2.2.2 b hp.2.1.lt hne.1 hne.2.1), hp.2.2.1.heap (hk.2.2.2.2 c hp.2.2.1.lt hne.2.2.1 hne.2.2.2), hp.2.2.2⟩
/-- Both sides at a round's head. -/
def Both (W w : World) (r g b c : Nat) (most : Int) (ls : List El) : Prop := FileAt w g b c most ls ∧ Ok most ls ∧ RefB w r most ls ∧ Below W.heap.size W w ∧ W.heap.size ≤ b ∧ W.heap.size ≤ c ∧ W.heap.size ≤ r
/-- One side is ahead. -/
def Ahead (W w : World) (r g b c : Nat) (most : Int) (ls ms : List El) : Prop := FileAt w g b c most ms ∧ Ok most ls ∧ Ok most ms ∧ RefB w r most ls ∧ Below W.heap.size W w ∧ W.heap.size ≤ b ∧ W.heap.size ≤ c ∧ W.heap.size ≤ r
section
variable {W w w' : World} {r g b c : Nat} {most : Int} {ls ms : List El}
theorem Both.below (h : Both W w r g b c most ls) (hb : Below w.heap.size w w') : Both W w' r g b c most ls := ⟨h.1.below hb, h.2.1, h.2.2.1.below hb, below_step h.2.2.2.1 hb, h.2.2.2.2⟩
theorem Both.alloc (h : Both W w r g b c most ls) (o : Obj) : Both W (w.alloc o) r g b c most ls := h.below ((Below.refl _ w).alloc (Nat.le_refl _) o)
theorem Both.bl (h : Both W w r g b c most ls) (hb : Bl w w') : Both W w' r g b c most ls := h.below hb.below
theorem Both.len (h : Both W w r g b c most ls) : ls.length ≤ 256 := by have h1 := h.2.1.len; have h2 := h.2.1.m2; omega
theorem Both.k2o {go bo co : Nat} {mo : Int} {lo : List El} (h : Both W w r g b c most ls) (ho : FileAt w go bo co mo lo) (hne : b ≠ bo ∧ b ≠ co ∧ c ≠ bo ∧ c ≠ co) (hk : K2 bo co w w') (hW : W.heap.size ≤ bo ∧ W.heap.size ≤ co) : Both W w' r g b c most ls :=
  ⟨h.1.k2o ho hne hk, h.2.1, h.2.2.1.k2 ho hk, K2.to_below h.2.2.2.1 hk hW.1 hW.2 h.2.2.2.1.size, h.2.2.2.2⟩
theorem Both.ahead (h : Both W w r g b c most ls) (hp : FileAt w' g b c most ms) (hv : Ok most ms) (hk : K2 b c w w') : Ahead W w' r g b c most ls ms :=
  ⟨hp, h.2.1, hv, h.2.2.1.k2 h.1 hk, K2.to_below h.2.2.2.1 hk h.2.2.2.2.1 h.2.2.2.2.2.1 h.2.2.2.1.size, h.2.2.2.2⟩
theorem Ahead.both (h : Ahead W w r g b c most ls ms) (hr : RefB w' r most ms) (hk : KB r w w') : Both W w' r g b c most ms :=
  ⟨h.1.kbr h.2.2.2.1 hk, h.2.2.1, hr, KB.to_below h.2.2.2.2.1 hk h.2.2.2.2.2.2.2 h.2.2.2.2.1.size, h.2.2.2.2.2⟩
theorem Ahead.bl (h : Ahead W w r g b c most ls ms) (hb : Bl w w') : Ahead W w' r g b c most ls ms := ⟨h.1.below hb.below, h.2.1, h.2.2.1, h.2.2.2.1.below hb.below, below_step h.2.2.2.2.1 hb.below, h.2.2.2.2.2⟩
end
theorem Both.ofCopy {W w w' : World} {r g b c g1 b1 c1 : Nat} {most : Int} {ls : List El} (h : Both W w r g b c most ls) (hp : FileAt w' g1 b1 c1 most ls) (hb1 : w.heap.size ≤ b1) (hc1 : w.heap.size ≤ c1) (hb : Below w.heap.size w w') : Both W w' r g1 b1 c1 most ls :=
  ⟨hp, h.2.1, h.2.2.1.below hb, below_step h.2.2.2.1 hb, Nat.le_trans h.2.2.2.1.size hb1, Nat.le_trans h.2.2.2.1.size hc1, h.2.2.2.2.2.2⟩
theorem apart {w : World} {g b c b1 c1 : Nat} {most : Int} {ls : List El} (h : FileAt w g b c most ls) (hb1 : w.heap.size ≤ b1) (hc1 : w.heap.size ≤ c1) : b1 ≠ b ∧ b1 ≠ c ∧ c1 ≠ b ∧ c1 ≠ c := by
  have h1 := h.lt.1
  have h2 := h.lt.2
  refine ⟨?_, ?_, ?_, ?_⟩ <;> omega
/-- A step's box. -/
def StAt (w : World) (B : Nat) (x : St) : Prop := w.heap[B]? = some (.cells #[.int .i64 x.f0, .string x.f1.f0, .string x.f1.f1, .string x.f1.f2, .int .u32 x.f1.f3, .bool x.f1.f4] 60 (0, 0))
theorem StAt.cells {w : World} {B : Nat} {x : St} (h : StAt w B x) : w.cell? ⟨B, 0, none⟩ = some (.int .i64 x.f0) ∧ w.cell? ⟨B, 1, none⟩ = some (.string x.f1.f0) ∧ w.cell? ⟨B, 2, none⟩ = some (.string x.f1.f1) ∧ w.cell? ⟨B, 3, none⟩ = some (.string x.f1.f2) ∧ w.cell? ⟨B, 4, none⟩ = some (.int .u32 x.f1.f3) ∧ w.cell? ⟨B, 5, none⟩ = some (.bool x.f1.f4) := ⟨blk_cell h 0, blk_cell h 1, blk_cell h 2, blk_cell h 3, blk_cell h 4, blk_cell h 5⟩
theorem StAt.below {w w1 : World} {B : Nat} {x : St} (h : StAt w B x) (hb : Below w.heap.size w w1) : StAt w1 B x := hw_below h hb
theorem StAt.bl {w w1 : World} {B : Nat} {x : St} (h : StAt w B x) (hb : Bl w w1) : StAt w1 B x := h.below hb.below
theorem StAt.kb {w w1 : World} {B b : Nat} {x : St} (h : StAt w B x) (hb : KB b w w1) (hne : B ≠ b) : StAt w1 B x := KB.block hb h hne
theorem StAt.k2 {w w1 : World} {B b c : Nat} {x : St} (h : StAt w B x) (hk : K2 b c w w1) (h1 : B ≠ b) (h2 : B ≠ c) : StAt w1 B x := K2.block hk h h1 h2
theorem C_bl {w w' : World} {A : Option Addr} {n : Nat} {xs : List El} (h : Kd.C k24 w A n xs) (hb : Bl w w') : Kd.C k24 w' A n xs := Kd.C_below h hb.below
theorem cell_bl {w w' : World} {p : Addr} {v : Value} (h : w.cell? p = some v) (hb : Bl w w') : w'.cell? p = some v := (hb.below.cell (World.block_lt_of_cell? _ _ h)).trans h
def spoilt : El := ⟨⟨#[115, 112, 111, 105, 108, 116]⟩, ⟨#[]⟩, ⟨#[112]⟩, 77, false⟩
theorem s21 {W : World} {B1 B2 B3 B4 r : Nat} {y u : El} {v : Value} (h1 : ElAt W B1 y) (h2 : ElAt W B2 y) (h3 : ElAt W B3 u) (h4 : ElAt W B4 u) (h5 : W.cell? ⟨r, 1, none⟩ = some v) : W.cell? ⟨B1, 0, none⟩ = some (.string y.f0) ∧ W.cell? ⟨B1, 1, none⟩ = some (.string y.f1) ∧ W.cell? ⟨B1, 2, none⟩ = some (.string y.f2) ∧ W.cell? ⟨B1, 3, none⟩ = some (.int .u32 y.f3) ∧ W.cell? ⟨B1, 4, none⟩ = some (.bool y.f4) ∧ W.cell? ⟨B2, 0, none⟩ = some (.string y.f0) ∧ W.cell? ⟨B2, 1, none⟩ = some (.string y.f1) ∧ W.cell? ⟨B2, 2, none⟩ = some (.string y.f2) ∧ W.cell? ⟨B2, 3, none⟩ = some (.int .u32 y.f3) ∧ W.cell? ⟨B2, 4, none⟩ = some (.bool y.f4) ∧ W.cell? ⟨B3, 0, none⟩ = some (.string u.f0) ∧ W.cell? ⟨B3, 1, none⟩ = some (.string u.f1) ∧ W.cell? ⟨B3, 2, none⟩ = some (.string u.f2) ∧ W.cell? ⟨B3, 3, none⟩ = some (.int .u32 u.f3) ∧ W.cell? ⟨B3, 4, none⟩ = some (.bool u.f4) ∧ W.cell? ⟨B4, 0, none⟩ = some (.string u.f0) ∧ W.cell? ⟨B4, 1, none⟩ = some (.string u.f1) ∧ W.cell? ⟨B4, 2, none⟩ = some (.string u.f2) ∧ W.cell? ⟨B4, 3, none⟩ = some (.int .u32 u.f3) ∧ W.cell? ⟨B4, 4, none⟩ = some (.bool u.f4) ∧ W.cell? ⟨r, 1, none⟩ = some v := ⟨h1.cell 0, h1.cell 1, h1.cell 2, h1.cell 3, h1.cell 4, h2.cell 0, h2.cell 1, h2.cell 2, h2.cell 3, h2.cell 4, h3.cell 0, h3.cell 1, h3.cell 2, h3.cell 3, h3.cell 4, h4.cell 0, h4.cell 1, h4.cell 2, h4.cell 3, h4.cell 4, h5⟩
set_option maxRecDepth 100000 in
set_option maxHeartbeats 64000000 in
theorem RecordPlays_many (a0 : Int) (A1 : Option Addr) (c1 : Nat) (ll : List St) (a2 : ByteArray) (a3 : Int) (w : World) (hs : Kd.C k60 w A1 ll.length ll) (hc1 : ll.length ≤ c1) (hn : (∀ x ∈ ll, x.f1.f0.size ≤ 140737488351232 ∧ 0 ≤ x.f1.f3 ∧ x.f1.f3 < 4294967296) ∧ a2.size ≤ 140737488351232 ∧ 0 ≤ a3 ∧ a3 < 4294967296) (n100 : 100 < ll.length) :
    Calls Try.prog 6 #[.int .i64 a0, .slice A1 ll.length c1, .string a2, .int .u32 a3] w (AliveRet w) := by
  have HS := Aside0.mk hs
  have HS0 := Aside0.mk hs
  have HC1 := Aside0.mk hc1
  have HN := Aside0.mk hn
  have HB := Aside0.mk (Below.refl w.heap.size w)
  have huE := Try.underlying24
  have huS := Try.underlying60
  have huF := Try.underlying73
  have m100 : (100 : Int) < (ll.length : Int) := by omega
  clear hs hc1 hn
  go_enter Try.func6, Try.ntmps6
  go_wp2_with (first
    | (go_at_call 9; go_must (refine (alive _).mono ?_); go_must (rintro e w4 ⟨rfl, hb⟩; replace HB := Aside0.mk (below_step HB.out hb)); clear hb))
  go_ret
  exact ⟨rfl, HB.out⟩
set_option maxRecDepth 100000 in
set_option maxHeartbeats 64000000 in
theorem RecordPlays_long (a0 : Int) (A1 : Option Addr) (c1 : Nat) (ll : List St) (a2 : ByteArray) (a3 : Int) (w : World) (hs : Kd.C k60 w A1 ll.length ll) (hc1 : ll.length ≤ c1) (hn : (∀ x ∈ ll, x.f1.f0.size ≤ 140737488351232 ∧ 0 ≤ x.f1.f3 ∧ x.f1.f3 < 4294967296) ∧ a2.size ≤ 140737488351232 ∧ 0 ≤ a3 ∧ a3 < 4294967296) (n100 : ll.length ≤ 100) (ms : List El) (hof : halyardlaw28_of.f 300 ll = some ms) (hl2 : halyardlaw28_Long.f 300 ms = some true) :
    Calls Try.prog 6 #[.int .i64 a0, .slice A1 ll.length c1, .string a2, .int .u32 a3] w (AliveRet w) := by
  have HS := Aside0.mk hs
  have HS0 := Aside0.mk hs
  have HC1 := Aside0.mk hc1
  have HN := Aside0.mk hn
  have HB := Aside0.mk (Below.refl w.heap.size w)
  have huE := Try.underlying24
  have huS := Try.underlying60
  have huF := Try.underlying73
  have m100 : ¬ (100 : Int) < (ll.length : Int) := by omega
  have HOF := Aside0.mk hof
  have HL2 := Aside0.mk hl2
  clear hs hc1 hn hof hl2
  go_enter Try.func6, Try.ntmps6
  go_wp2_with (first
    | (go_at_call 20; go_must (refine (halyardlaw28_of.calls 300 A1 c1 ll ms _ HS.out HC1.out HOF.out).mono ?_); go_must (rintro e w2 ⟨v_, rfl, hr_, hb_⟩; obtain ⟨A2, c2, rfl, hc2_, hC2_⟩ := Kd.R_reads hr_; have HR2 := Aside0.mk hC2_; have HC2 := Aside0.mk hc2_; replace HB := Aside0.mk (below_step HB.out hb_); replace HS := Aside0.mk (Kd.C_below HS.out hb_)); clear hr_ hb_ hC2_ hc2_)
    | (go_at_call 8; go_must (refine (halyardlaw28_Long.calls 300 A2 c2 ms true _ HR2.out HC2.out HL2.out).mono ?_); go_must (rintro e w3 ⟨rfl, hd⟩; replace HB := Aside0.mk (below_step HB.out (drawn_below hd)); replace HS := Aside0.mk (Kd.C_below HS.out (drawn_below hd))); clear hd)
    | (go_at_call 9; go_must (refine (alive _).mono ?_); go_must (rintro e w4 ⟨rfl, hb⟩; replace HB := Aside0.mk (below_step HB.out hb)); clear hb))
  go_ret
  exact ⟨rfl, HB.out⟩
set_option maxRecDepth 100000 in
set_option maxHeartbeats 64000000 in
theorem RecordPlays_name (a0 : Int) (A1 : Option Addr) (c1 : Nat) (ll : List St) (a2 : ByteArray) (a3 : Int) (w : World) (hs : Kd.C k60 w A1 ll.length ll) (hc1 : ll.length ≤ c1) (hn : (∀ x ∈ ll, x.f1.f0.size ≤ 140737488351232 ∧ 0 ≤ x.f1.f3 ∧ x.f1.f3 < 4294967296) ∧ a2.size ≤ 140737488351232 ∧ 0 ≤ a3 ∧ a3 < 4294967296) (n100 : ll.length ≤ 100) (ms : List El) (hof : halyardlaw28_of.f 300 ll = some ms) (hl2 : halyardlaw28_Long.f 300 ms = some false) (hz : 1024 < a2.size) :
    Calls Try.prog 6 #[.int .i64 a0, .slice A1 ll.length c1, .string a2, .int .u32 a3] w (AliveRet w) := by
  have HS := Aside0.mk hs
  have HS0 := Aside0.mk hs
  have HC1 := Aside0.mk hc1
  have HN := Aside0.mk hn
  have HB := Aside0.mk (Below.refl w.heap.size w)
  have huE := Try.underlying24
  have huS := Try.underlying60
  have huF := Try.underlying73
  have m100 : ¬ (100 : Int) < (ll.length : Int) := by omega
  have HOF := Aside0.mk hof
  have HL2 := Aside0.mk hl2
  have z1 : (1024 : Int) < (a2.size : Int) := by omega
  clear hs hc1 hn hof hl2
  go_enter Try.func6, Try.ntmps6
  go_wp2_with (first
    | (go_at_call 20; go_must (refine (halyardlaw28_of.calls 300 A1 c1 ll ms _ HS.out HC1.out HOF.out).mono ?_); go_must (rintro e w2 ⟨v_, rfl, hr_, hb_⟩; obtain ⟨A2, c2, rfl, hc2_, hC2_⟩ := Kd.R_reads hr_; have HR2 := Aside0.mk hC2_; have HC2 := Aside0.mk hc2_; replace HB := Aside0.mk (below_step HB.out hb_); replace HS := Aside0.mk (Kd.C_below HS.out hb_)); clear hr_ hb_ hC2_ hc2_)
    | (go_at_call 8; go_must (refine (halyardlaw28_Long.calls 300 A2 c2 ms false _ HR2.out HC2.out HL2.out).mono ?_); go_must (rintro e w3 ⟨rfl, hd⟩; replace HB := Aside0.mk (below_step HB.out (drawn_below hd)); replace HS := Aside0.mk (Kd.C_below HS.out (drawn_below hd))); clear hd)
    | (go_at_call 9; go_must (refine (alive _).mono ?_); go_must (rintro e w4 ⟨rfl, hb⟩; replace HB := Aside0.mk (below_step HB.out hb)); clear hb))
  go_ret
  exact ⟨rfl, HB.out⟩
set_option maxRecDepth 100000 in
set_option maxHeartbeats 64000000 in
theorem RecordPlays_low (a0 : Int) (A1 : Option Addr) (c1 : Nat) (ll : List St) (a2 : ByteArray) (a3 : Int) (w : World) (hs : Kd.C k60 w A1 ll.length ll) (hc1 : ll.length ≤ c1) (hn : (∀ x ∈ ll, x.f1.f0.size ≤ 140737488351232 ∧ 0 ≤ x.f1.f3 ∧ x.f1.f3 < 4294967296) ∧ a2.size ≤ 140737488351232 ∧ 0 ≤ a3 ∧ a3 < 4294967296) (n100 : ll.length ≤ 100) (ms : List El) (hof : halyardlaw28_of.f 300 ll = some ms) (hl2 : halyardlaw28_Long.f 300 ms = some false) (hz : a2.size ≤ 1024) (hm : a0 < 1) :
    Calls Try.prog 6 #[.int .i64 a0, .slice A1 ll.length c1, .string a2, .int .u32 a3] w (AliveRet w) := by
  have HS := Aside0.mk hs
  have HS0 := Aside0.mk hs
  have HC1 := Aside0.mk hc1
  have HN := Aside0.mk hn
  have HB := Aside0.mk (Below.refl w.heap.size w)
  have huE := Try.underlying24
  have huS := Try.underlying60
  have huF := Try.underlying73
  have m100 : ¬ (100 : Int) < (ll.length : Int) := by omega
  have HOF := Aside0.mk hof
  have HL2 := Aside0.mk hl2
  have z1 : ¬ (1024 : Int) < (a2.size : Int) := by omega
  have HM := Aside0.mk (show a0 < 1 ∨ 256 < a0 from .inl hm)
  have d1 : decide (a0 < 1) = true := decide_eq_true hm
  clear hs hc1 hn hof hl2
  go_enter Try.func6, Try.ntmps6
  go_wp2_with (first
    | (go_at_call 20; go_must (refine (halyardlaw28_of.calls 300 A1 c1 ll ms _ HS.out HC1.out HOF.out).mono ?_); go_must (rintro e w2 ⟨v_, rfl, hr_, hb_⟩; obtain ⟨A2, c2, rfl, hc2_, hC2_⟩ := Kd.R_reads hr_; have HR2 := Aside0.mk hC2_; have HC2 := Aside0.mk hc2_; replace HB := Aside0.mk (below_step HB.out hb_); replace HS := Aside0.mk (Kd.C_below HS.out hb_)); clear hr_ hb_ hC2_ hc2_)
    | (go_at_call 8; go_must (refine (halyardlaw28_Long.calls 300 A2 c2 ms false _ HR2.out HC2.out HL2.out).mono ?_); go_must (rintro e w3 ⟨rfl, hd⟩; replace HB := Aside0.mk (below_step HB.out (drawn_below hd)); replace HS := Aside0.mk (Kd.C_below HS.out (drawn_below hd))); clear hd)
    | (go_at_call 26; refine (OfNil _ _).mono ?_; rintro e wn1 ⟨rfl, hb⟩; have HB_ := Aside0.mk (below_step (by repeat (first | (with_reducible first | exact HB.out | apply below_alloc | apply pw_below_drewN | apply below_drew1 | apply below_drew) | (refine Below.setCell ?_ (by first | (simp; done) | (simp; omega)) _))) hb); replace HB := HB_; clear HB_ hb; have zz := HB.out.size)
    | (go_at_call 24; refine (AtNil _ _).mono ?_; rintro e wn2 ⟨rfl, hb⟩; have HB_ := Aside0.mk (below_step (by repeat (first | (with_reducible first | exact HB.out | apply below_alloc | apply pw_below_drewN | apply below_drew1 | apply below_drew) | (refine Below.setCell ?_ (by first | (simp; done) | (simp; omega)) _))) hb); replace HB := HB_; clear HB_ hb; have zz := HB.out.size)
    | (go_at_call 23; refine (PutNil z24 _).mono ?_; rintro e wn3 ⟨rfl, hb⟩; have HB_ := Aside0.mk (below_step (by repeat (first | (with_reducible first | exact HB.out | apply below_alloc | apply pw_below_drewN | apply below_drew1 | apply below_drew) | (refine Below.setCell ?_ (by first | (simp; done) | (simp; omega)) _))) hb); replace HB := HB_; clear HB_ hb; have zz := HB.out.size)
    | (go_at_call 25; refine (DelNil _ _).mono ?_; rintro e wn4 ⟨rfl, hb⟩; have HB_ := Aside0.mk (below_step (by repeat (first | (with_reducible first | exact HB.out | apply below_alloc | apply pw_below_drewN | apply below_drew1 | apply below_drew) | (refine Below.setCell ?_ (by first | (simp; done) | (simp; omega)) _))) hb); replace HB := HB_; clear HB_ hb; have zz := HB.out.size)
    | (go_at_call 28; refine (LenNil  _).mono ?_; rintro e wn5 ⟨rfl, hb⟩; have HB_ := Aside0.mk (below_step (by repeat (first | (with_reducible first | exact HB.out | apply below_alloc | apply pw_below_drewN | apply below_drew1 | apply below_drew) | (refine Below.setCell ?_ (by first | (simp; done) | (simp; omega)) _))) hb); replace HB := HB_; clear HB_ hb; have zz := HB.out.size)
    | (go_at_call 22; refine (ListNil  _).mono ?_; rintro e wn6 ⟨rfl, hb⟩; have HB_ := Aside0.mk (below_step (by repeat (first | (with_reducible first | exact HB.out | apply below_alloc | apply pw_below_drewN | apply below_drew1 | apply below_drew) | (refine Below.setCell ?_ (by first | (simp; done) | (simp; omega)) _))) hb); replace HB := HB_; clear HB_ hb; have zz := HB.out.size)
    | (go_at_call 30; refine (CopyNil  _).mono ?_; rintro e wn7 ⟨rfl, hb⟩; have HB_ := Aside0.mk (below_step (by repeat (first | (with_reducible first | exact HB.out | apply below_alloc | apply pw_below_drewN | apply below_drew1 | apply below_drew) | (refine Below.setCell ?_ (by first | (simp; done) | (simp; omega)) _))) hb); replace HB := HB_; clear HB_ hb; have zz := HB.out.size)
    | (go_at_call 21; go_must (refine (NewNo a0 _ HM.out).mono ?_); go_must (rintro e w12 ⟨rfl, hb⟩; have HB_ := Aside0.mk (below_step (by repeat (first | (with_reducible first | exact HB.out | apply below_alloc | apply pw_below_drewN | apply below_drew1 | apply below_drew) | (refine Below.setCell ?_ (by first | (simp; done) | (simp; omega)) _))) hb); replace HB := HB_; clear HB_); clear hb)
    | (go_at_call 9; go_must (refine (alive _).mono ?_); go_must (rintro e w4 ⟨rfl, hb⟩; replace HB := Aside0.mk (below_step HB.out hb)); clear hb))
  go_ret
  exact ⟨rfl, HB.out⟩
set_option maxRecDepth 100000 in
set_option maxHeartbeats 64000000 in
theorem RecordPlays_high (a0 : Int) (A1 : Option Addr) (c1 : Nat) (ll : List St) (a2 : ByteArray) (a3 : Int) (w : World) (hs : Kd.C k60 w A1 ll.length ll) (hc1 : ll.length ≤ c1) (hn : (∀ x ∈ ll, x.f1.f0.size ≤ 140737488351232 ∧ 0 ≤ x.f1.f3 ∧ x.f1.f3 < 4294967296) ∧ a2.size ≤ 140737488351232 ∧ 0 ≤ a3 ∧ a3 < 4294967296) (n100 : ll.length ≤ 100) (ms : List El) (hof : halyardlaw28_of.f 300 ll = some ms) (hl2 : halyardlaw28_Long.f 300 ms = some false) (hz : a2.size ≤ 1024) (hm : 256 < a0) :
    Calls Try.prog 6 #[.int .i64 a0, .slice A1 ll.length c1, .string a2, .int .u32 a3] w (AliveRet w) := by
  have HS := Aside0.mk hs
  have HS0 := Aside0.mk hs
  have HC1 := Aside0.mk hc1
  have HN := Aside0.mk hn
  have HB := Aside0.mk (Below.refl w.heap.size w)
  have huE := Try.underlying24
  have huS := Try.underlying60
  have huF := Try.underlying73
  have m100 : ¬ (100 : Int) < (ll.length : Int) := by omega
  have HOF := Aside0.mk hof
  have HL2 := Aside0.mk hl2
  have z1 : ¬ (1024 : Int) < (a2.size : Int) := by omega
  have HM := Aside0.mk (show a0 < 1 ∨ 256 < a0 from .inr hm)
  have d1 : decide (a0 < 1) = false := decide_eq_false (by omega)
  have d2 : decide (256 < a0) = true := decide_eq_true hm
  clear hs hc1 hn hof hl2
  go_enter Try.func6, Try.ntmps6
  go_wp2_with (first
    | (go_at_call 20; go_must (refine (halyardlaw28_of.calls 300 A1 c1 ll ms _ HS.out HC1.out HOF.out).mono ?_); go_must (rintro e w2 ⟨v_, rfl, hr_, hb_⟩; obtain ⟨A2, c2, rfl, hc2_, hC2_⟩ := Kd.R_reads hr_; have HR2 := Aside0.mk hC2_; have HC2 := Aside0.mk hc2_; replace HB := Aside0.mk (below_step HB.out hb_); replace HS := Aside0.mk (Kd.C_below HS.out hb_)); clear hr_ hb_ hC2_ hc2_)
    | (go_at_call 8; go_must (refine (halyardlaw28_Long.calls 300 A2 c2 ms false _ HR2.out HC2.out HL2.out).mono ?_); go_must (rintro e w3 ⟨rfl, hd⟩; replace HB := Aside0.mk (below_step HB.out (drawn_below hd)); replace HS := Aside0.mk (Kd.C_below HS.out (drawn_below hd))); clear hd)
    | (go_at_call 26; refine (OfNil _ _).mono ?_; rintro e wn1 ⟨rfl, hb⟩; have HB_ := Aside0.mk (below_step (by repeat (first | (with_reducible first | exact HB.out | apply below_alloc | apply pw_below_drewN | apply below_drew1 | apply below_drew) | (refine Below.setCell ?_ (by first | (simp; done) | (simp; omega)) _))) hb); replace HB := HB_; clear HB_ hb; have zz := HB.out.size)
    | (go_at_call 24; refine (AtNil _ _).mono ?_; rintro e wn2 ⟨rfl, hb⟩; have HB_ := Aside0.mk (below_step (by repeat (first | (with_reducible first | exact HB.out | apply below_alloc | apply pw_below_drewN | apply below_drew1 | apply below_drew) | (refine Below.setCell ?_ (by first | (simp; done) | (simp; omega)) _))) hb); replace HB := HB_; clear HB_ hb; have zz := HB.out.size)
    | (go_at_call 23; refine (PutNil z24 _).mono ?_; rintro e wn3 ⟨rfl, hb⟩; have HB_ := Aside0.mk (below_step (by repeat (first | (with_reducible first | exact HB.out | apply below_alloc | apply pw_below_drewN | apply below_drew1 | apply below_drew) | (refine Below.setCell ?_ (by first | (simp; done) | (simp; omega)) _))) hb); replace HB := HB_; clear HB_ hb; have zz := HB.out.size)
    | (go_at_call 25; refine (DelNil _ _).mono ?_; rintro e wn4 ⟨rfl, hb⟩; have HB_ := Aside0.mk (below_step (by repeat (first | (with_reducible first | exact HB.out | apply below_alloc | apply pw_below_drewN | apply below_drew1 | apply below_drew) | (refine Below.setCell ?_ (by first | (simp; done) | (simp; omega)) _))) hb); replace HB := HB_; clear HB_ hb; have zz := HB.out.size)
    | (go_at_call 28; refine (LenNil  _).mono ?_; rintro e wn5 ⟨rfl, hb⟩; have HB_ := Aside0.mk (below_step (by repeat (first | (with_reducible first | exact HB.out | apply below_alloc | apply pw_below_drewN | apply below_drew1 | apply below_drew) | (refine Below.setCell ?_ (by first | (simp; done) | (simp; omega)) _))) hb); replace HB := HB_; clear HB_ hb; have zz := HB.out.size)
    | (go_at_call 22; refine (ListNil  _).mono ?_; rintro e wn6 ⟨rfl, hb⟩; have HB_ := Aside0.mk (below_step (by repeat (first | (with_reducible first | exact HB.out | apply below_alloc | apply pw_below_drewN | apply below_drew1 | apply below_drew) | (refine Below.setCell ?_ (by first | (simp; done) | (simp; omega)) _))) hb); replace HB := HB_; clear HB_ hb; have zz := HB.out.size)
    | (go_at_call 30; refine (CopyNil  _).mono ?_; rintro e wn7 ⟨rfl, hb⟩; have HB_ := Aside0.mk (below_step (by repeat (first | (with_reducible first | exact HB.out | apply below_alloc | apply pw_below_drewN | apply below_drew1 | apply below_drew) | (refine Below.setCell ?_ (by first | (simp; done) | (simp; omega)) _))) hb); replace HB := HB_; clear HB_ hb; have zz := HB.out.size)
    | (go_at_call 21; go_must (refine (NewNo a0 _ HM.out).mono ?_); go_must (rintro e w12 ⟨rfl, hb⟩; have HB_ := Aside0.mk (below_step (by repeat (first | (with_reducible first | exact HB.out | apply below_alloc | apply pw_below_drewN | apply below_drew1 | apply below_drew) | (refine Below.setCell ?_ (by first | (simp; done) | (simp; omega)) _))) hb); replace HB := HB_; clear HB_); clear hb)
    | (go_at_call 9; go_must (refine (alive _).mono ?_); go_must (rintro e w4 ⟨rfl, hb⟩; replace HB := Aside0.mk (below_step HB.out hb)); clear hb))
  go_ret
  exact ⟨rfl, HB.out⟩
theorem new_both {w w5 : World} {r g b c : Nat} {a0 : Int} (hF : FileAt w5 g b c a0 []) (h1 : 1 ≤ a0) (h2 : a0 ≤ 256) (hb : Below w.heap.size w w5) (hb1 : w.heap.size ≤ b) (hc1 : w.heap.size ≤ c) (hr : w5.heap.size = r) : Both w (w5.alloc (Obj.cells #[Value.int IntKind.i64 a0, Value.slice none 0 0] 73)) r g b c a0 [] := by
  subst hr
  exact ⟨hF.alloc _, ok0 h1 h2, ⟨_, heap_alloc_new w5 _, Kd.R_nil _ _ _ _ _⟩, hb.alloc hb.size _, hb1, hc1, hb.size⟩
theorem SubIs (w : World) : Calls Try.prog 34 #[.string ⟨#[115, 112, 111, 105, 108, 116]⟩, .int .u32 77] w fun e w' => e = .returned (.agg #[.string spoilt.f0, .string spoilt.f1, .string spoilt.f2, .int .u32 spoilt.f3, .bool spoilt.f4]) ∧ Below w.heap.size w w' :=
  halyardlaw28_sub.calls ⟨#[115, 112, 111, 105, 108, 116]⟩ 77 ⟨#[115, 112, 111, 105, 108, 116]⟩ ⟨#[]⟩ ⟨#[112]⟩ 77 false w (by kernel_rfl)
set_option maxRecDepth 100000 in
set_option maxHeartbeats 64000000 in
theorem RecordPlays_ok (a0 : Int) (A1 : Option Addr) (c1 : Nat) (ll : List St) (a2 : ByteArray) (a3 : Int) (w : World) (hs : Kd.C k60 w A1 ll.length ll) (hc1 : ll.length ≤ c1) (hn : (∀ x ∈ ll, x.f1.f0.size ≤ 140737488351232 ∧ 0 ≤ x.f1.f3 ∧ x.f1.f3 < 4294967296) ∧ a2.size ≤ 140737488351232 ∧ 0 ≤ a3 ∧ a3 < 4294967296) (n100 : ll.length ≤ 100) (ms : List El) (hof : halyardlaw28_of.f 300 ll = some ms) (hl2 : halyardlaw28_Long.f 300 ms = some false) (hz : a2.size ≤ 1024) (hm1 : 1 ≤ a0) (hm2 : a0 ≤ 256) :
    Calls Try.prog 6 #[.int .i64 a0, .slice A1 ll.length c1, .string a2, .int .u32 a3] w (AliveRet w) := by
  have HS := Aside0.mk hs
  have HS0 := Aside0.mk hs
  have HC1 := Aside0.mk hc1
  have HN := Aside0.mk hn
  have HB := Aside0.mk (Below.refl w.heap.size w)
  have huE := Try.underlying24
  have huS := Try.underlying60
  have huF := Try.underlying73
  have m100 : ¬ (100 : Int) < (ll.length : Int) := by omega
  have HOF := Aside0.mk hof
  have HL2 := Aside0.mk hl2
  have z1 : ¬ (1024 : Int) < (a2.size : Int) := by omega
  have HM := Aside0.mk (show 1 ≤ a0 ∧ a0 ≤ 256 from ⟨hm1, hm2⟩)
  have d1 : decide (a0 < 1) = false := decide_eq_false (by omega)
  have d2 : decide (256 < a0) = false := decide_eq_false (by omega)
  clear hs hc1 hn hof hl2
  go_enter Try.func6, Try.ntmps6
  go_wp2_with (first
    | (go_at_call 20; go_must (refine (halyardlaw28_of.calls 300 A1 c1 ll ms _ HS.out HC1.out HOF.out).mono ?_); go_must (rintro e w2 ⟨v_, rfl, hr_, hb_⟩; obtain ⟨A2, c2, rfl, hc2_, hC2_⟩ := Kd.R_reads hr_; have HR2 := Aside0.mk hC2_; have HC2 := Aside0.mk hc2_; replace HB := Aside0.mk (below_step HB.out hb_); replace HS := Aside0.mk (Kd.C_below HS.out hb_)); clear hr_ hb_ hC2_ hc2_)
    | (go_at_call 8; go_must (refine (halyardlaw28_Long.calls 300 A2 c2 ms false _ HR2.out HC2.out HL2.out).mono ?_); go_must (rintro e w3 ⟨rfl, hd⟩; replace HB := Aside0.mk (below_step HB.out (drawn_below hd)); replace HS := Aside0.mk (Kd.C_below HS.out (drawn_below hd))); clear hd)
    | (go_at_call 26; refine (OfNil _ _).mono ?_; rintro e wn1 ⟨rfl, hb⟩; have HB_ := Aside0.mk (below_step (by repeat (first | (with_reducible first | exact HB.out | apply below_alloc | apply pw_below_drewN | apply below_drew1 | apply below_drew) | (refine Below.setCell ?_ (by first | (simp; done) | (simp; omega)) _))) hb); replace HB := HB_; clear HB_ hb; have zz := HB.out.size)
    | (go_at_call 24; refine (AtNil _ _).mono ?_; rintro e wn2 ⟨rfl, hb⟩; have HB_ := Aside0.mk (below_step (by repeat (first | (with_reducible first | exact HB.out | apply below_alloc | apply pw_below_drewN | apply below_drew1 | apply below_drew) | (refine Below.setCell ?_ (by first | (simp; done) | (simp; omega)) _))) hb); replace HB := HB_; clear HB_ hb; have zz := HB.out.size)
    | (go_at_call 23; refine (PutNil z24 _).mono ?_; rintro e wn3 ⟨rfl, hb⟩; have HB_ := Aside0.mk (below_step (by repeat (first | (with_reducible first | exact HB.out | apply below_alloc | apply pw_below_drewN | apply below_drew1 | apply below_drew) | (refine Below.setCell ?_ (by first | (simp; done) | (simp; omega)) _))) hb); replace HB := HB_; clear HB_ hb; have zz := HB.out.size)
    | (go_at_call 25; refine (DelNil _ _).mono ?_; rintro e wn4 ⟨rfl, hb⟩; have HB_ := Aside0.mk (below_step (by repeat (first | (with_reducible first | exact HB.out | apply below_alloc | apply pw_below_drewN | apply below_drew1 | apply below_drew) | (refine Below.setCell ?_ (by first | (simp; done) | (simp; omega)) _))) hb); replace HB := HB_; clear HB_ hb; have zz := HB.out.size)
    | (go_at_call 28; refine (LenNil  _).mono ?_; rintro e wn5 ⟨rfl, hb⟩; have HB_ := Aside0.mk (below_step (by repeat (first | (with_reducible first | exact HB.out | apply below_alloc | apply pw_below_drewN | apply below_drew1 | apply below_drew) | (refine Below.setCell ?_ (by first | (simp; done) | (simp; omega)) _))) hb); replace HB := HB_; clear HB_ hb; have zz := HB.out.size)
    | (go_at_call 22; refine (ListNil  _).mono ?_; rintro e wn6 ⟨rfl, hb⟩; have HB_ := Aside0.mk (below_step (by repeat (first | (with_reducible first | exact HB.out | apply below_alloc | apply pw_below_drewN | apply below_drew1 | apply below_drew) | (refine Below.setCell ?_ (by first | (simp; done) | (simp; omega)) _))) hb); replace HB := HB_; clear HB_ hb; have zz := HB.out.size)
    | (go_at_call 30; refine (CopyNil  _).mono ?_; rintro e wn7 ⟨rfl, hb⟩; have HB_ := Aside0.mk (below_step (by repeat (first | (with_reducible first | exact HB.out | apply below_alloc | apply pw_below_drewN | apply below_drew1 | apply below_drew) | (refine Below.setCell ?_ (by first | (simp; done) | (simp; omega)) _))) hb); replace HB := HB_; clear HB_ hb; have zz := HB.out.size)
    | (go_at_call 21; go_must (refine (NewYes a0 _ HM.out.1 HM.out.2).mono ?_); go_must (rintro e w5 ⟨g, b, c, rfl, hF, hg1, hb1, hc1, hb⟩; have HB_ := Aside0.mk (below_step (by repeat (first | (with_reducible first | exact HB.out | apply below_alloc | apply pw_below_drewN | apply below_drew1 | apply below_drew) | (refine Below.setCell ?_ (by first | (simp; done) | (simp; omega)) _))) hb); obtain ⟨r, hr⟩ : ∃ r, w5.heap.size = r := ⟨_, rfl⟩; have J0 := Aside0.mk (new_both (r := r) hF (by omega) (by omega) HB_.out (Nat.le_trans (Below.size (by repeat (first | (with_reducible first | exact HB.out | apply below_alloc | apply pw_below_drewN | apply below_drew1 | apply below_drew) | (refine Below.setCell ?_ (by first | (simp; done) | (simp; omega)) _)))) hb1) (Nat.le_trans (Below.size (by repeat (first | (with_reducible first | exact HB.out | apply below_alloc | apply pw_below_drewN | apply below_drew1 | apply below_drew) | (refine Below.setCell ?_ (by first | (simp; done) | (simp; omega)) _)))) hc1) hr); have HRr := Aside0.mk hr; clear hr); clear hF hb))
  rw [HRr.out]
  go_loopg [14, 17] ll.length (fun gk v14 v17 wr => ∃ (i g1 b1 c1 : Nat) (ls : List El), i ≤ ll.length ∧ gk = ll.length - i ∧ v17 = .int .i64 (i : Int) ∧ v14 = .pointer (some ⟨g1, 0, none⟩) ∧ Aside0 (Both w wr r g1 b1 c1 a0 ls))
  case atStart => exact ⟨0, g, b, c, [], by omega, by omega, rfl, rfl, J0⟩
  case round =>
    clear J0 HB HB_ HS HR2 HC2 HL2 HOF HRr
    obtain ⟨i, g1, b1, c2, l1, hi, rfl, rfl, rfl, J⟩ := hrel
    have HSr := Aside0.mk (Kd.C_below HS0.out J.out.2.2.2.1)
    by_cases hlt : i < ll.length
    · obtain ⟨x, hx⟩ : ∃ x, x = rd_T60 ll i := ⟨_, rfl⟩
      obtain ⟨ad, rfl, q0, q1, q2, q3, q4, q5⟩ := at_T60 HSr.out (i : Int) (by omega) (by omega)
      rw [← hx, Int.toNat_natCast] at q0 q1 q2 q3 q4 q5
      have hxm : x ∈ ll := by
        rw [hx]; unfold rd_T60
        rw [Int.toNat_natCast, List.getD_eq_getElem?_getD, List.getElem?_eq_getElem hlt]
        exact List.getElem_mem _
      obtain ⟨xs, xa, xb⟩ := HN.out.1 x hxm
      obtain ⟨ns, na, nb⟩ := HN.out.2
      clear hx hxm
      go_upto_region 18 with fail
      have hb1lt : wr.heap.size ≠ b1 := Nat.ne_of_gt J.out.1.lt.1
      have hc1lt : wr.heap.size ≠ c2 := Nat.ne_of_gt J.out.1.lt.2
      have hrlt : wr.heap.size ≠ r := by obtain ⟨v_, h_, _⟩ := J.out.2.2.1; exact Nat.ne_of_gt (blk_lt h_)
      replace J := Aside0.mk (J.out.alloc (Obj.cells #[Value.int IntKind.i64 x.f0, Value.string x.f1.f0, Value.string x.f1.f1, Value.string x.f1.f2, Value.int IntKind.u32 x.f1.f3, Value.bool x.f1.f4] 60))
      have HX := Aside0.mk (show StAt (wr.alloc (Obj.cells #[Value.int IntKind.i64 x.f0, Value.string x.f1.f0, Value.string x.f1.f1, Value.string x.f1.f2, Value.int IntKind.u32 x.f1.f3, Value.bool x.f1.f4] 60)) wr.heap.size x from heap_alloc_new wr _)
      obtain ⟨cc, hcc⟩ : ∃ cc : Int, (if okS x.f1 = true then (0 : Int) else 2) = cc := ⟨_, rfl⟩
      have HK1 := Aside0.mk (check_ok x.f1)
      have HK2 := Aside0.mk (refCheck_ok x.f1)
      rw [hcc] at HK1 HK2
      have hS := HX.out.cells
      clear q0 q1 q2 q3 q4 q5 hcc HSr
      go_cut [19] (fun v19 wx => v19 = .bool true ∧ Aside0 (Both w wx r g1 b1 c2 a0 l1) ∧ Aside0 (StAt wx wr.heap.size x))
      case first =>
        as_aux_lemma =>
          go_region_held3 (fun w' => w'.cell? ⟨wr.heap.size, 0, none⟩ = some (.int .i64 x.f0) ∧ w'.cell? ⟨wr.heap.size, 1, none⟩ = some (.string x.f1.f0) ∧ w'.cell? ⟨wr.heap.size, 2, none⟩ = some (.string x.f1.f1) ∧ w'.cell? ⟨wr.heap.size, 3, none⟩ = some (.string x.f1.f2) ∧ w'.cell? ⟨wr.heap.size, 4, none⟩ = some (.int .u32 x.f1.f3) ∧ w'.cell? ⟨wr.heap.size, 5, none⟩ = some (.bool x.f1.f4)) (first | (with_reducible exact hS2) | (with_reducible exact hS1) | (with_reducible exact hS) | go_keep)
            (first
              | (go_at_call 29; (refine (record_Check.calls _ _ _ _ _ cc _ HK1.out).mono ?_); (rintro e w14 ⟨rfl, hb'⟩; have hb := Bl.of hb'; replace J := Aside0.mk (J.out.bl hb); replace HX := Aside0.mk (HX.out.bl hb); have hS1 := HX.out.cells); clear hb hb')
              | (go_at_call 31; (refine (halyardref28_Check.calls _ _ _ _ _ cc _ HK2.out).mono ?_); (rintro e w15 ⟨rfl, hb'⟩; have hb := Bl.of hb'; replace J := Aside0.mk (J.out.bl hb); replace HX := Aside0.mk (HX.out.bl hb); have hS2 := HX.out.cells); clear hb hb'))
          all_goals
            go_wp2_with fail
            go_meet
            exact ⟨rfl, J, HX⟩
      case rest =>
        obtain ⟨rfl, J', HX'⟩ := hcut
        clear J HX hS HK1 HK2
        have J := J'
        have HX := HX'
        have hS := HX.out.cells
        clear J' HX'
        go_upto_block 2 with fail
        go_cut [14, 19] (fun v14 v19 wx => ∃ (g2 b2 c3 : Nat) (l2 : List El), v14 = .pointer (some ⟨g2, 0, none⟩) ∧ v19 = .bool true ∧ Aside0 (Both w wx r g2 b2 c3 a0 l2))
        case first =>
          obtain ⟨hS0, hS1, hS2, hS3, hS4, hS5⟩ := hS
          by_cases d0 : x.f0 = 0
          · have e0 : (x.f0 == 0) = true := beq_iff_eq.mpr d0
            clear d0
            obtain ⟨K, hK⟩ : ∃ K, putK a0 l1 x.f1 = K := ⟨_, rfl⟩
            have HK := Aside0.mk hK
            clear hK
            as_aux_lemma =>
              go_upto_region 21 with fail
              have hSS := HX.out.cells
              go_region_held3 (fun w' => w'.cell? ⟨wr.heap.size, 0, none⟩ = some (.int .i64 x.f0) ∧ w'.cell? ⟨wr.heap.size, 1, none⟩ = some (.string x.f1.f0) ∧ w'.cell? ⟨wr.heap.size, 2, none⟩ = some (.string x.f1.f1) ∧ w'.cell? ⟨wr.heap.size, 3, none⟩ = some (.string x.f1.f2) ∧ w'.cell? ⟨wr.heap.size, 4, none⟩ = some (.int .u32 x.f1.f3) ∧ w'.cell? ⟨wr.heap.size, 5, none⟩ = some (.bool x.f1.f4)) (first | (with_reducible exact hT6) | (with_reducible exact hT5) | (with_reducible exact hSS) | go_keep)
                (first
                  | (go_at_call 23; (refine (PutIs (g := g1) (b := b1) (c := c2) (most := a0) (ls := l1) (x := x.f1) ?_ J.out.2.1 xs xa xb HK.out).mono ?_; exact J.out.1); (rintro e w5 ⟨rfl, hP, hk⟩; have J5 := Aside0.mk (Both.ahead J.out hP (J.out.2.1.put x.f1 xa xb) hk); have HX5 := Aside0.mk (StAt.k2 HX.out hk hb1lt hc1lt); have hT5 := HX5.out.cells); clear hP hk)
                  | (go_at_call 32; (refine (RefPutIs (r := r) (most := a0) (ls := l1) (x := x.f1) ?_ J5.out.2.1.v (by have := J.out.len; omega) HK.out).mono ?_; exact J5.out.2.2.2.1); (rintro e w6 ⟨rfl, hr, hk⟩; have J6 := Aside0.mk (Ahead.both J5.out hr hk); have HX6 := Aside0.mk (StAt.kb HX5.out hk hrlt); have hT6 := HX6.out.cells); clear hr hk))
              all_goals (go_wp2_with fail; go_meet; exact ⟨g1, b1, c2, _, rfl, by simp, J6⟩)
          · have e0 : (x.f0 == 0) = false := beq_eq_false_iff_ne.mpr d0
            by_cases d1_ : x.f0 = 1
            · have e1 : (x.f0 == 1) = true := beq_iff_eq.mpr d1_
              clear d0 d1_
              obtain ⟨K, hK⟩ : ∃ K, delK l1 x.f1.f0 = K := ⟨_, rfl⟩
              have HK := Aside0.mk hK
              clear hK
              as_aux_lemma =>
                go_upto_region 23 with fail
                have hSS := HX.out.cells
                go_region_held3 (fun w' => w'.cell? ⟨wr.heap.size, 0, none⟩ = some (.int .i64 x.f0) ∧ w'.cell? ⟨wr.heap.size, 1, none⟩ = some (.string x.f1.f0) ∧ w'.cell? ⟨wr.heap.size, 2, none⟩ = some (.string x.f1.f1) ∧ w'.cell? ⟨wr.heap.size, 3, none⟩ = some (.string x.f1.f2) ∧ w'.cell? ⟨wr.heap.size, 4, none⟩ = some (.int .u32 x.f1.f3) ∧ w'.cell? ⟨wr.heap.size, 5, none⟩ = some (.bool x.f1.f4)) (first | (with_reducible exact hT6) | (with_reducible exact hT5) | (with_reducible exact hSS) | go_keep)
                  (first
                    | (go_at_call 25; (refine (DelIs (g := g1) (b := b1) (c := c2) (most := a0) (ls := l1) (s := x.f1.f0) ?_ J.out.2.1.v xs HK.out).mono ?_; exact J.out.1); (rintro e w5 ⟨rfl, hP, hk⟩; have J5 := Aside0.mk (Both.ahead J.out hP (J.out.2.1.del x.f1.f0) hk); have HX5 := Aside0.mk (StAt.k2 HX.out hk hb1lt hc1lt); have hT5 := HX5.out.cells); clear hP hk)
                    | (go_at_call 33; (refine (RefDelIs (r := r) (most := a0) (ls := l1) (s := x.f1.f0) ?_ J5.out.2.1.v (by have := J.out.len; omega) HK.out).mono ?_; exact J5.out.2.2.2.1); (rintro e w6 ⟨rfl, hr, hk⟩; have J6 := Aside0.mk (Ahead.both J5.out hr hk); have HX6 := Aside0.mk (StAt.kb HX5.out hk hrlt); have hT6 := HX6.out.cells); clear hr hk))
                all_goals (go_wp2_with fail; go_meet; exact ⟨g1, b1, c2, _, rfl, by simp, J6⟩)
            · have e1 : (x.f0 == 1) = false := beq_eq_false_iff_ne.mpr d1_
              by_cases d2_ : x.f0 = 2
              · have e2 : (x.f0 == 2) = true := beq_iff_eq.mpr d2_
                clear d0 d1_ d2_
                obtain ⟨K, hK⟩ : ∃ K, delK l1 x.f1.f0 = K := ⟨_, rfl⟩
                obtain ⟨K2_, hK2⟩ : ∃ K, putK a0 (del nm l1 x.f1.f0) spoilt = K := ⟨_, rfl⟩
                have HK := Aside0.mk hK
                have HKK := Aside0.mk hK2
                clear hK hK2
                as_aux_lemma =>
                  have JW := Aside0.mk (show w.heap.size ≤ b1 ∧ w.heap.size ≤ c2 from ⟨J.out.2.2.2.2.1, J.out.2.2.2.2.2.1⟩)
                  go_wp2_with (first
                    | (go_at_call 30; go_must (refine (Copy J.out.1).mono ?_); go_must (rintro e w5 ⟨g5, b5, c5, rfl, hP, hg, hb5, hc5, hb⟩; have O := Aside0.mk (J.out.1.below hb); have Nw := Aside0.mk (Both.ofCopy J.out hP hb5 hc5 hb); have HX5 := Aside0.mk (HX.out.below hb); have hT5 := HX5.out.cells.2.1; have hne5 := Aside0.mk (apart J.out.1 hb5 hc5)); clear hP hg hb5 hc5 hb)
                    | (go_at_call 25; go_must (refine (DelIs O.out J.out.2.1.v xs HK.out).mono ?_); go_must (rintro e w6 ⟨rfl, hP, hk⟩; replace Nw := Aside0.mk (Nw.out.k2o O.out hne5.out hk JW.out); replace O := Aside0.mk hP); clear hP hk)
                    | (go_at_call 34; go_must (refine (SubIs _).mono ?_); go_must (rintro e w8_ ⟨rfl, hb⟩; replace Nw := Aside0.mk (Nw.out.below hb); replace O := Aside0.mk (O.out.below hb)); clear hb)
                    | (go_at_call 23; go_must (refine (PutIs (x := spoilt) O.out (J.out.2.1.del x.f1.f0) (by decide) (by decide) (by decide) HKK.out).mono ?_); go_must (rintro e w7 ⟨rfl, hP, hk⟩; replace Nw := Aside0.mk (Nw.out.k2o O.out hne5.out hk JW.out)); clear hP hk))
                  go_meet
                  exact ⟨g5, b5, c5, _, rfl, rfl, Nw⟩
              · have e2 : (x.f0 == 2) = false := beq_eq_false_iff_ne.mpr d2_
                clear d0 d1_ d2_
                go_wp2_with fail
                go_meet
                exact ⟨g1, b1, c2, _, rfl, rfl, J⟩
        case rest =>
          obtain ⟨g2, b2, c3, l2, rfl, rfl, J2⟩ := hcut
          clear J HX hb1lt hc1lt hrlt hS
          obtain ⟨⟨y, is⟩, hy⟩ : ∃ p, ofP l2 a2 = p := ⟨_, rfl⟩
          obtain ⟨⟨u, ui⟩, hu⟩ : ∃ p, atP l2 a3 = p := ⟨_, rfl⟩
          have HY := Aside0.mk hy
          have HU := Aside0.mk hu
          clear hy hu
          as_aux_lemma =>
            go_upto_region 35 with (first
              | (go_at_call 26; go_must (refine (Of (y := y) (is := is) J2.out.1 ns HY.out).mono ?_); go_must (rintro e w5 ⟨rfl, hb⟩; replace J2 := Aside0.mk (J2.out.below hb)); clear hb)
              | (go_at_call 35; go_must (refine (RefOf (y := y) (is := is) (J2.out.alloc _).2.2.1 J2.out.2.1.v.up (by have := J2.out.len; omega) HY.out).mono ?_); go_must (rintro e w6 ⟨rfl, hb⟩; have B1 := Aside0.mk (elAt_call (elAt_new w5 y) hb); replace J2 := Aside0.mk ((J2.out.alloc _).below hb)); clear hb)
              | (go_at_call 24; go_must (refine (At (y := u) (is := ui) (J2.out.alloc _).1 J2.out.2.1.v na nb HU.out).mono ?_); go_must (rintro e w7 ⟨rfl, hb⟩; have B1_ := Aside0.mk (elAt_call (B1.out.alloc _) hb); have B2 := Aside0.mk (elAt_call (elAt_new w6 y) hb); replace B1 := B1_; clear B1_; replace J2 := Aside0.mk ((J2.out.alloc _).below hb)); clear hb)
              | (go_at_call 36; go_must (refine (RefAt (y := u) (is := ui) (J2.out.alloc _).2.2.1 J2.out.2.1.v (by have := J2.out.len; omega) HU.out).mono ?_); go_must (rintro e w8 ⟨rfl, hb⟩; have B1_ := Aside0.mk (elAt_call (B1.out.alloc _) hb); have B2_ := Aside0.mk (elAt_call (B2.out.alloc _) hb); have B3 := Aside0.mk (elAt_call (elAt_new w7 u) hb); replace B1 := B1_; replace B2 := B2_; clear B1_ B2_; replace J2 := Aside0.mk ((J2.out.alloc _).below hb)); clear hb))
            replace J2 := Aside0.mk (J2.out.alloc (Obj.cells #[Value.string u.f0, Value.string u.f1, Value.string u.f2, Value.int IntKind.u32 u.f3, Value.bool u.f4] 24))
            have B4 := Aside0.mk (show ElAt (w8.alloc (Obj.cells #[Value.string u.f0, Value.string u.f1, Value.string u.f2, Value.int IntKind.u32 u.f3, Value.bool u.f4] 24)) w8.heap.size u from elAt_new w8 u)
            replace B1 := Aside0.mk (B1.out.alloc (Obj.cells #[Value.string u.f0, Value.string u.f1, Value.string u.f2, Value.int IntKind.u32 u.f3, Value.bool u.f4] 24))
            replace B2 := Aside0.mk (B2.out.alloc (Obj.cells #[Value.string u.f0, Value.string u.f1, Value.string u.f2, Value.int IntKind.u32 u.f3, Value.bool u.f4] 24))
            replace B3 := Aside0.mk (B3.out.alloc (Obj.cells #[Value.string u.f0, Value.string u.f1, Value.string u.f2, Value.int IntKind.u32 u.f3, Value.bool u.f4] 24))
            obtain ⟨Ar, cr, hbr, hcr, hCr⟩ := J2.out.2.2.1.parts
            have HCR := Aside0.mk hCr
            have HPR := Aside0.mk hcr
            have HL2 := Aside0.mk J2.out.len
            have kr := (RefB.cells hbr).2
            have hS := s21 B1.out B2.out B3.out B4.out kr
            clear hCr hcr hbr
            go_region_held3 (fun w' => w'.cell? ⟨w5.heap.size, 0, none⟩ = some (.string y.f0) ∧ w'.cell? ⟨w5.heap.size, 1, none⟩ = some (.string y.f1) ∧ w'.cell? ⟨w5.heap.size, 2, none⟩ = some (.string y.f2) ∧ w'.cell? ⟨w5.heap.size, 3, none⟩ = some (.int .u32 y.f3) ∧ w'.cell? ⟨w5.heap.size, 4, none⟩ = some (.bool y.f4) ∧ w'.cell? ⟨w6.heap.size, 0, none⟩ = some (.string y.f0) ∧ w'.cell? ⟨w6.heap.size, 1, none⟩ = some (.string y.f1) ∧ w'.cell? ⟨w6.heap.size, 2, none⟩ = some (.string y.f2) ∧ w'.cell? ⟨w6.heap.size, 3, none⟩ = some (.int .u32 y.f3) ∧ w'.cell? ⟨w6.heap.size, 4, none⟩ = some (.bool y.f4) ∧ w'.cell? ⟨w7.heap.size, 0, none⟩ = some (.string u.f0) ∧ w'.cell? ⟨w7.heap.size, 1, none⟩ = some (.string u.f1) ∧ w'.cell? ⟨w7.heap.size, 2, none⟩ = some (.string u.f2) ∧ w'.cell? ⟨w7.heap.size, 3, none⟩ = some (.int .u32 u.f3) ∧ w'.cell? ⟨w7.heap.size, 4, none⟩ = some (.bool u.f4) ∧ w'.cell? ⟨w8.heap.size, 0, none⟩ = some (.string u.f0) ∧ w'.cell? ⟨w8.heap.size, 1, none⟩ = some (.string u.f1) ∧ w'.cell? ⟨w8.heap.size, 2, none⟩ = some (.string u.f2) ∧ w'.cell? ⟨w8.heap.size, 3, none⟩ = some (.int .u32 u.f3) ∧ w'.cell? ⟨w8.heap.size, 4, none⟩ = some (.bool u.f4) ∧ w'.cell? ⟨r, 1, none⟩ = some (.slice Ar l2.length cr)) (first | (with_reducible exact hS11) | (with_reducible exact hS10) | (with_reducible exact hS9) | (with_reducible exact hS) | go_keep)
              (first
                | (go_at_call 28; (refine (Len g2 b2 c3 a0 l2 _ ?_).mono ?_; exact J2.out.1); (rintro e w12 ⟨rfl, hb'⟩; have hb := Bl.of hb'; replace HCR := Aside0.mk (C_bl HCR.out hb); replace J2 := Aside0.mk (J2.out.bl hb); replace B1 := Aside0.mk (elAt_bl B1.out hb); replace B2 := Aside0.mk (elAt_bl B2.out hb); replace B3 := Aside0.mk (elAt_bl B3.out hb); replace B4 := Aside0.mk (elAt_bl B4.out hb); have kr9 := cell_bl kr hb; have hS9 := s21 B1.out B2.out B3.out B4.out kr9); clear hb hb')
                | (go_at_call 22; (refine (List_ (g := g2) (b := b2) (c := c3) (most := a0) (ls := l2) ?_ J2.out.2.1).mono ?_; exact J2.out.1); (rintro e w9 ⟨v, rfl, hrow, hb'⟩; obtain ⟨ar1, cap1, rfl, hcap1, hC1, hblk1⟩ := C_of_own hrow; have hb := Bl.of hb'; have HC1_ := Aside0.mk hC1; have HP1 := Aside0.mk hcap1; replace HCR := Aside0.mk (C_bl HCR.out hb); replace J2 := Aside0.mk (J2.out.bl hb); replace B1 := Aside0.mk (elAt_bl B1.out hb); replace B2 := Aside0.mk (elAt_bl B2.out hb); replace B3 := Aside0.mk (elAt_bl B3.out hb); replace B4 := Aside0.mk (elAt_bl B4.out hb); have kr10 := cell_bl kr9 hb; have hS10 := s21 B1.out B2.out B3.out B4.out kr10); clear hb hb' hrow hC1 hblk1 hcap1)
                | (go_at_call 27; (refine (sameAll HC1_.out HP1.out HCR.out HPR.out (by have := HL2.out; omega)).mono ?_); (rintro e w10 ⟨rfl, hb'⟩; have hb := Bl.of hb'; replace J2 := Aside0.mk (J2.out.bl hb); replace B1 := Aside0.mk (elAt_bl B1.out hb); replace B2 := Aside0.mk (elAt_bl B2.out hb); replace B3 := Aside0.mk (elAt_bl B3.out hb); replace B4 := Aside0.mk (elAt_bl B4.out hb); have kr11 := cell_bl kr10 hb; have hS11 := s21 B1.out B2.out B3.out B4.out kr11); clear hb hb'))
            all_goals
              go_wp2_with fail
              go_roundg (ll.length - (i + 1))
              case measure => omega
              case rel => exact ⟨i + 1, g2, b2, c3, _, by omega, rfl, by go_num, rfl, J2⟩
    · go_wp2_with (first
        | (go_at_call 9; go_must (refine (alive _).mono ?_); rintro e w3 ⟨rfl, hb⟩; have HB := Aside0.mk (below_step J.out.2.2.2.1 hb); clear hb))
      go_ret
      exact ⟨rfl, HB.out⟩

theorem RecordPlays_run (a0 : Int) (A1 : Option Addr) (c1 : Nat) (ll : List St) (a2 : ByteArray) (a3 : Int) (w : World) (hs : Kd.C k60 w A1 ll.length ll) (hc1 : ll.length ≤ c1) (hn : (∀ x ∈ ll, x.f1.f0.size ≤ 140737488351232 ∧ 0 ≤ x.f1.f3 ∧ x.f1.f3 < 4294967296) ∧ a2.size ≤ 140737488351232 ∧ 0 ≤ a3 ∧ a3 < 4294967296) :
    Calls Try.prog 6 #[.int .i64 a0, .slice A1 ll.length c1, .string a2, .int .u32 a3] w (AliveRet w) := by
  by_cases n100 : ll.length ≤ 100
  · obtain ⟨b, hb, _⟩ := long_val (ll.map (·.f1))
    have hof := of_val ll n100
    cases b with
    | true => exact RecordPlays_long a0 A1 c1 ll a2 a3 w hs hc1 hn n100 _ hof hb
    | false =>
      by_cases hz : a2.size ≤ 1024
      · by_cases h1 : a0 < 1
        · exact RecordPlays_low a0 A1 c1 ll a2 a3 w hs hc1 hn n100 _ hof hb hz h1
        · by_cases h2 : 256 < a0
          · exact RecordPlays_high a0 A1 c1 ll a2 a3 w hs hc1 hn n100 _ hof hb hz h2
          · exact RecordPlays_ok a0 A1 c1 ll a2 a3 w hs hc1 hn n100 _ hof hb hz (by omega) (by omega)
      · exact RecordPlays_name a0 A1 c1 ll a2 a3 w hs hc1 hn n100 _ hof hb (by omega)
  · exact RecordPlays_many a0 A1 c1 ll a2 a3 w hs hc1 hn (by omega)
end Go.Proofs.YtmgpaccgjafjeaaHVR
