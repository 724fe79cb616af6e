-- WRITTEN by wip/tools/hprint.py: the kit's print.py run over this translation, with functions proved by hand laid in. Lean checks it.
import Derived.Test.YtdlpoemjgeehgaaPG11Tx0
import Derived.Test.YtdlpoemjgeehgaaPG11Tx1
import Derived.Test.YtdlpoemjgeehgaaPG11Tx9
import Derived.Test.YtdlpoemjgeehgaaPG11Tx10
import Derived.Test.YtdlpoemjgeehgaaPG11Tx13
import Derived.Test.YtdlpoemjgeehgaaPG11Tx14
import Derived.Test.YtdlpoemjgeehgaaPG11Tx15
import Derived.Test.YtdlpoemjgeehgaaPG11Tx16
import Derived.Test.YtdlpoemjgeehgaaPG11Tx17
import Derived.Test.YtdlpoemjgeehgaaPG11Tx18
import Derived.Test.YtdlpoemjgeehgaaPG11Tx19
import Derived.Test.YtdlpoemjgeehgaaPG11Tx22
import Derived.Test.YtdlpoemjgeehgaaPG11Tx23
namespace Go.Proofs.Ytdlpoemjgeehgaa.PG11T
open Go.RowKit Go.Proofs.YtdlpoemjgeehgaaW.PrintWords Go.Proofs.YtdlpoemjgeehgaaW.PrintLast Go.Proofs.YtdlpoemjgeehgaaW.PrintMore Go.Proofs.YtdlpoemjgeehgaaHW
attribute [local go_sem] max2_int min2_int max_two min_two max_three min_three max_four min_four   -- for this text's walks alone
set_option linter.unusedVariables false
set_option linter.unusedSimpArgs false

attribute [local go_sem high] eqA25
/-! ### halyardlaw11_RejectTells: function 12 -/
theorem bN {w : World} {g : Nat} {o : Obj} (n : Nat) (h : w.heap[g]? = some o) : (w.drewN n).heap[g]? = some o := blk_drewN h n
theorem bD {w : World} {g : Nat} {o : Obj} (h : w.heap[g]? = some o) : w.drew.heap[g]? = some o := blk_drew h
theorem bA {w : World} {g : Nat} {o : Obj} (o' : Obj) (h : w.heap[g]? = some o) : (w.alloc o').heap[g]? = some o := blk_alloc h o'
theorem mkA {p : Prop} (h : p) : Aside0 p := ⟨h⟩
theorem nB {w w1 : World} {g : Nat} {o : Obj} (h : w.heap[g]? = some o) (hb : Below w.heap.size w w1) : Aside0 (w1.heap[g]? = some o) := ⟨blk_below h hb⟩
theorem wN {B : Nat} {w W : World} (h : Below B w W) (n : Nat) : Below B w (W.drewN n) := pw_below_drewN h n
theorem w1_ {B : Nat} {w W : World} (h : Below B w W) : Below B w W.drew := below_drew1 h
theorem wA {w W : World} (h : Below w.heap.size w W) (o : Obj) : Below w.heap.size w (W.alloc o) := below_alloc h o
theorem wS {w W : World} {g j : Nat} {v : Value} (h : Below w.heap.size w W) (hg : Aside0 (w.heap.size ≤ g)) : Below w.heap.size w (W.setCell ⟨g, j, none⟩ v) := below_set h hg.out
theorem sA {α : Type} (l : List α) (i : Nat) (a : α) : l.toArray.setIfInBounds i a = (l.set i a).toArray := List.setIfInBounds_toArray ..
theorem sB {α : Type} (a b : α) (l : List α) : (a :: l).set 0 b = b :: l := rfl
theorem sC {α : Type} (a b : α) (l : List α) (n : Nat) : (a :: l).set (n + 1) b = a :: l.set n b := rfl
mutual
def halyardlaw11_RejectTells.j0 : Nat → Int → Int → ByteArray → Int → Int → Int → Int → Int → Bool → Int → Int → ByteArray → Int → Int → ByteArray → Int → Int → ByteArray → Int → Int → ByteArray → Option (Bool)
 | 0, _, _, _, _, _, _, _, _, _, _, _, _, _, _, _, _, _, _, _, _, _ => none
 | k + 1, x0, x2, x3, x4, x5, x14, x16, x28, x105, x171000, x171001, x171002, x177000, x177001, x177002, x182000, x182001, x182002, x203000, x203001, x203002 => if x105 = true then (some false) else (if (x3.size : Int) > 1496 then (if (!(x203000 == 0) || (!(x203001 == 0) || (!(x203002.toList == ([] : List UInt8))))) = true then (some false) else (if x28 = 5 then (halyardlaw11_RejectTells.j1 k x0 x2 x3 x4 x14 x16 x171000 x171001 x171002 x177000 x177001 x177002 x182000 x182001 x182002) else (some false))) else (if (!(x203000 == x5) || (!(x203001 == x171001) || (!(x203002.toList == x3.toList)))) = true then (some false) else (if x28 = 0 then (halyardlaw11_RejectTells.j1 k x0 x2 x3 x4 x14 x16 x171000 x171001 x171002 x177000 x177001 x177002 x182000 x182001 x182002) else (some false))))
def halyardlaw11_RejectTells.j1 : Nat → Int → Int → ByteArray → Int → Int → Int → Int → Int → ByteArray → Int → Int → ByteArray → Int → Int → ByteArray → Option (Bool)
 | 0, _, _, _, _, _, _, _, _, _, _, _, _, _, _, _ => none
 | k + 1, x0, x2, x3, x4, x14, x16, x171000, x171001, x171002, x177000, x177001, x177002, x182000, x182001, x182002 => (halyardref11_May.f x4).bind fun t203 => (if t203 = true then ((halyardref11_Code.f x0 x171000 x171001 x171002 x4).bind fun bt204 => (if (x177000 == bt204.1 && (x177001 == bt204.2.1 && (x177002.toList == bt204.2.2.1.toList))) = true then (if x14 = bt204.2.2.2 then ((halyardref11_Proto.f x0 x2 x3 x4).bind fun bt209 => (if (x182000 == bt209.1 && (x182001 == bt209.2.1 && (x182002.toList == bt209.2.2.toList))) = true then (if x16 = 0 then ((halyardlaw11_alive.f).bind fun t212 => (some t212)) else (some false)) else (some false))) else (some false)) else (some false))) else (if (x177000 == 0 && (x177001 == 0 && (x177002.toList == ([] : List UInt8)))) = true then (if (x182000 == 0 && (x182001 == 0 && (x182002.toList == ([] : List UInt8)))) = true then (if x14 = 2 then (if x16 = 2 then ((halyardlaw11_alive.f).bind fun t213 => (some t213)) else (some false)) else (some false)) else (some false)) else (some false)))
end
def halyardlaw11_RejectTells.f (k : Nat) (a0 : Int) (a1_0 : Int) (a1_1 : Int) (a1_2 : ByteArray) (a2 : Int) (a3 : ByteArray) (a4 : Int) (a5 : Int) : Option (Bool) := if (wrap64 ((a1_2.size : Int) + (a3.size : Int))) > 16384 then ((halyardlaw11_alive.f).bind fun t171 => (some t171)) else ((reject_Code.f a0 a1_0 a1_1 a1_2 a4).bind fun bt172 => ((reject_Proto.f a0 a2 a3 a4).bind fun bt177 => ((reject_Rejected.f a1_0 a1_1 a1_2).bind fun bt182 => ((halyardref11_Rejected.f a1_0 a1_1 a1_2).bind fun bt185 => ((reject_Inner.f a1_0 a1_1 a1_2).bind fun bt188 => ((halyardref11_Inner.f a1_0 a1_1 a1_2).bind fun bt193 => ((reject_Reply.f a1_0 a1_1 a1_2 a5 a3).bind fun bt198 => (if bt182.1 = bt185.1 then (if bt182.2.1.toList = bt185.2.1.toList then (if bt182.2.2 = bt185.2.2 then (if (!(bt188.1 == bt193.1) || (!(bt188.2.1 == bt193.2.1) || (!(bt188.2.2.1.toList == bt193.2.2.1.toList)))) = true then (halyardlaw11_RejectTells.j0 k a0 a2 a3 a4 a5 bt172.2.2.2 bt177.2.2.2 bt198.2.2.2 true a1_0 a1_1 a1_2 bt172.1 bt172.2.1 bt172.2.2.1 bt177.1 bt177.2.1 bt177.2.2.1 bt198.1 bt198.2.1 bt198.2.2.1) else (halyardlaw11_RejectTells.j0 k a0 a2 a3 a4 a5 bt172.2.2.2 bt177.2.2.2 bt198.2.2.2 (bt188.2.2.2 != bt193.2.2.2) a1_0 a1_1 a1_2 bt172.1 bt172.2.1 bt172.2.2.1 bt177.1 bt177.2.1 bt177.2.2.1 bt198.1 bt198.2.1 bt198.2.2.1)) else (halyardlaw11_RejectTells.j0 k a0 a2 a3 a4 a5 bt172.2.2.2 bt177.2.2.2 bt198.2.2.2 true a1_0 a1_1 a1_2 bt172.1 bt172.2.1 bt172.2.2.1 bt177.1 bt177.2.1 bt177.2.2.1 bt198.1 bt198.2.1 bt198.2.2.1)) else (halyardlaw11_RejectTells.j0 k a0 a2 a3 a4 a5 bt172.2.2.2 bt177.2.2.2 bt198.2.2.2 true a1_0 a1_1 a1_2 bt172.1 bt172.2.1 bt172.2.2.1 bt177.1 bt177.2.1 bt177.2.2.1 bt198.1 bt198.2.1 bt198.2.2.1)) else (halyardlaw11_RejectTells.j0 k a0 a2 a3 a4 a5 bt172.2.2.2 bt177.2.2.2 bt198.2.2.2 true a1_0 a1_1 a1_2 bt172.1 bt172.2.1 bt172.2.2.1 bt177.1 bt177.2.1 bt177.2.2.1 bt198.1 bt198.2.1 bt198.2.2.1)))))))))
theorem halyardlaw11_RejectTells.mono_l : ∀ k, (∀ y0 y1 y2 y3 y4 y5 y6 y7 y8 y9 y10 y11 y12 y13 y14 y15 y16 y17 y18 y19 y20, LeO (halyardlaw11_RejectTells.j0 k y0 y1 y2 y3 y4 y5 y6 y7 y8 y9 y10 y11 y12 y13 y14 y15 y16 y17 y18 y19 y20) (halyardlaw11_RejectTells.j0 (k + 1) y0 y1 y2 y3 y4 y5 y6 y7 y8 y9 y10 y11 y12 y13 y14 y15 y16 y17 y18 y19 y20)) ∧ (∀ y0 y1 y2 y3 y4 y5 y6 y7 y8 y9 y10 y11 y12 y13 y14, LeO (halyardlaw11_RejectTells.j1 k y0 y1 y2 y3 y4 y5 y6 y7 y8 y9 y10 y11 y12 y13 y14) (halyardlaw11_RejectTells.j1 (k + 1) y0 y1 y2 y3 y4 y5 y6 y7 y8 y9 y10 y11 y12 y13 y14))
 | 0 => ⟨fun _ _ _ _ _ _ _ _ _ _ _ _ _ _ _ _ _ _ _ _ _ r h => by simp [halyardlaw11_RejectTells.j0] at h, fun _ _ _ _ _ _ _ _ _ _ _ _ _ _ _ r h => by simp [halyardlaw11_RejectTells.j1] at h⟩
 | k + 1 => by
  obtain ⟨ih0, ih1⟩ := halyardlaw11_RejectTells.mono_l k
  refine ⟨?_, ?_⟩
  ·intro y0 y1 y2 y3 y4 y5 y6 y7 y8 y9 y10 y11 y12 y13 y14 y15 y16 y17 y18 y19 y20
   unfold halyardlaw11_RejectTells.j0
   repeat' first
   | (with_reducible exact ih0 _ _ _ _ _ _ _ _ _ _ _ _ _ _ _ _ _ _ _ _ _)
   | (with_reducible exact ih1 _ _ _ _ _ _ _ _ _ _ _ _ _ _ _)
   | (with_reducible exact LeO.refl _)
   | (with_reducible exact LeO.none _)
   | (with_reducible refine LeO.ite ?_ ?_)
   | (with_reducible refine LeO.bind ?_ (fun _ => ?_))
   | exact ih0 _ _ _ _ _ _ _ _ _ _ _ _ _ _ _ _ _ _ _ _ _
   | exact ih1 _ _ _ _ _ _ _ _ _ _ _ _ _ _ _
   | exact LeO.none _
   | refine LeO.ite ?_ ?_
   | refine LeO.bind ?_ (fun _ => ?_)
  ·intro y0 y1 y2 y3 y4 y5 y6 y7 y8 y9 y10 y11 y12 y13 y14
   unfold halyardlaw11_RejectTells.j1
   repeat' first
   | (with_reducible exact ih0 _ _ _ _ _ _ _ _ _ _ _ _ _ _ _ _ _ _ _ _ _)
   | (with_reducible exact ih1 _ _ _ _ _ _ _ _ _ _ _ _ _ _ _)
   | (with_reducible exact LeO.refl _)
   | (with_reducible exact LeO.none _)
   | (with_reducible refine LeO.ite ?_ ?_)
   | (with_reducible refine LeO.bind ?_ (fun _ => ?_))
   | exact ih0 _ _ _ _ _ _ _ _ _ _ _ _ _ _ _ _ _ _ _ _ _
   | exact ih1 _ _ _ _ _ _ _ _ _ _ _ _ _ _ _
   | exact LeO.none _
   | refine LeO.ite ?_ ?_
   | refine LeO.bind ?_ (fun _ => ?_)
theorem halyardlaw11_RejectTells.mono : ∀ a0 a1 a2 a3 a4 a5 a6 a7 k, LeO (halyardlaw11_RejectTells.f k a0 a1 a2 a3 a4 a5 a6 a7) (halyardlaw11_RejectTells.f (k + 1) a0 a1 a2 a3 a4 a5 a6 a7) := by
 intro a0 a1 a2 a3 a4 a5 a6 a7 k
 obtain ⟨ih0, ih1⟩ := halyardlaw11_RejectTells.mono_l k
 unfold halyardlaw11_RejectTells.f
 repeat' first
   | (with_reducible exact ih0 _ _ _ _ _ _ _ _ _ _ _ _ _ _ _ _ _ _ _ _ _)
   | (with_reducible exact ih1 _ _ _ _ _ _ _ _ _ _ _ _ _ _ _)
   | (with_reducible exact LeO.refl _)
   | (with_reducible exact LeO.none _)
   | (with_reducible refine LeO.ite ?_ ?_)
   | (with_reducible refine LeO.bind ?_ (fun _ => ?_))
   | exact ih0 _ _ _ _ _ _ _ _ _ _ _ _ _ _ _ _ _ _ _ _ _
   | exact ih1 _ _ _ _ _ _ _ _ _ _ _ _ _ _ _
   | exact LeO.none _
   | refine LeO.ite ?_ ?_
   | refine LeO.bind ?_ (fun _ => ?_)
def halyardlaw11_RejectTells.T20 : Bool × List (List Nat × List Nat) := (true, [([], []), ([], []), ([0, 1], [0, 1]), ([2], [2]), ([3], [3]), ([3], [3]), ([4, 5, 3], [3, 4, 5]), ([3, 6], [3, 6]), ([7, 3], [7]), ([8], [8]), ([8], [8]), ([8], [8]), ([8], [8]), ([8], [8]), ([10, 11, 12, 13, 8, 8], [8, 10, 11, 12, 13]), ([9, 14, 8], [8, 9, 14]), ([8, 15], [8, 15]), ([16, 14], [16]), ([17], [17]), ([18, 17], [17, 18]), ([17, 19], [17, 19]), ([20, 17], [20]), ([21, 21], [21]), ([21, 22], [21, 22]), ([23, 22, 0, 1, 2, 3, 4, 5, 6, 7, 8, 9, 10, 11, 12, 13, 14, 15, 16, 17, 18, 19, 20, 21, 22, 23], [23])])
def halyardlaw11_RejectTells.B20 : List Nat := [0, 0, 3, 7, 15, 15, 63, 127, 255, 511, 511, 511, 511, 511, 15871, 32767, 65535, 131071, 262143, 524287, 1048575, 2097151, 4194303, 8388607, 16777215]
theorem halyardlaw11_RejectTells.tab20 : rtab .any (opsOf Try.f12 20) = halyardlaw11_RejectTells.T20 := by kernel_rfl
theorem halyardlaw11_RejectTells.bits20 : waitsOk halyardlaw11_RejectTells.T20.2 halyardlaw11_RejectTells.B20 = true := by kernel_rfl
set_option maxHeartbeats 8000000 in
set_option maxRecDepth 100000 in
theorem halyardlaw11_RejectTells.calls (k : Nat) (a0 : Int) (a1_0 : Int) (a1_1 : Int) (a1_2 : ByteArray) (a2 : Int) (a3 : ByteArray) (a4 : Int) (a5 : Int) (r : Bool) (w : World) (h : halyardlaw11_RejectTells.f k a0 a1_0 a1_1 a1_2 a2 a3 a4 a5 = some r) :
  Calls Try.prog 12 #[.int .u8 a0, .agg #[.int .u8 a1_0, .int .u8 a1_1, .string a1_2], .int .u16 a2, .string a3, .int .i64 a4, .int .u8 a5] w fun e w' => e = .returned (.bool r) ∧ Below w.heap.size w w' := by
 have hu25 := Try.underlying25
 have HB := mkA (Below.refl w.heap.size w)
 have H : (if (wrap64 ((a1_2.size : Int) + (a3.size : Int))) > 16384 then ((halyardlaw11_alive.f).bind fun t171 => (some t171)) else ((reject_Code.f a0 a1_0 a1_1 a1_2 a4).bind fun bt172 => ((reject_Proto.f a0 a2 a3 a4).bind fun bt177 => ((reject_Rejected.f a1_0 a1_1 a1_2).bind fun bt182 => ((halyardref11_Rejected.f a1_0 a1_1 a1_2).bind fun bt185 => ((reject_Inner.f a1_0 a1_1 a1_2).bind fun bt188 => ((halyardref11_Inner.f a1_0 a1_1 a1_2).bind fun bt193 => ((reject_Reply.f a1_0 a1_1 a1_2 a5 a3).bind fun bt198 => (if bt182.1 = bt185.1 then (if bt182.2.1.toList = bt185.2.1.toList then (if bt182.2.2 = bt185.2.2 then (if (!(bt188.1 == bt193.1) || (!(bt188.2.1 == bt193.2.1) || (!(bt188.2.2.1.toList == bt193.2.2.1.toList)))) = true then (halyardlaw11_RejectTells.j0 k a0 a2 a3 a4 a5 bt172.2.2.2 bt177.2.2.2 bt198.2.2.2 true a1_0 a1_1 a1_2 bt172.1 bt172.2.1 bt172.2.2.1 bt177.1 bt177.2.1 bt177.2.2.1 bt198.1 bt198.2.1 bt198.2.2.1) else (halyardlaw11_RejectTells.j0 k a0 a2 a3 a4 a5 bt172.2.2.2 bt177.2.2.2 bt198.2.2.2 (bt188.2.2.2 != bt193.2.2.2) a1_0 a1_1 a1_2 bt172.1 bt172.2.1 bt172.2.2.1 bt177.1 bt177.2.1 bt177.2.2.1 bt198.1 bt198.2.1 bt198.2.2.1)) else (halyardlaw11_RejectTells.j0 k a0 a2 a3 a4 a5 bt172.2.2.2 bt177.2.2.2 bt198.2.2.2 true a1_0 a1_1 a1_2 bt172.1 bt172.2.1 bt172.2.2.1 bt177.1 bt177.2.1 bt177.2.2.1 bt198.1 bt198.2.1 bt198.2.2.1)) else (halyardlaw11_RejectTells.j0 k a0 a2 a3 a4 a5 bt172.2.2.2 bt177.2.2.2 bt198.2.2.2 true a1_0 a1_1 a1_2 bt172.1 bt172.2.1 bt172.2.2.1 bt177.1 bt177.2.1 bt177.2.2.1 bt198.1 bt198.2.1 bt198.2.2.1)) else (halyardlaw11_RejectTells.j0 k a0 a2 a3 a4 a5 bt172.2.2.2 bt177.2.2.2 bt198.2.2.2 true a1_0 a1_1 a1_2 bt172.1 bt172.2.1 bt172.2.2.1 bt177.1 bt177.2.1 bt177.2.2.1 bt198.1 bt198.2.1 bt198.2.2.1)))))))))) = some r := h
 clear h
 by_cases c7 : (wrap64 ((a1_2.size : Int) + (a3.size : Int))) > 16384
 ·rw [if_pos c7] at H
  have c7b0 : decide (16384 < (wrap64 ((a1_2.size : Int) + (a3.size : Int)))) = true := decide_eq_true c7
  clear c7
  replace H := Option.bind_eq_some_iff.mp H
  obtain ⟨t171, A80, H⟩ := H
  replace H : (some t171) = some r := H
  have A8 := mkA A80
  clear A80
  obtain rfl := Option.some.inj H
  go_enter Try.func12, Try.ntmps12
  go_wp2_with (first | ((with_reducible refine gate_dst (N := 7) rfl ?_); refine box_event ?hg (N := 7) ?hd (cs := #[.int .u8 a1_0, .int .u8 a1_1, .string a1_2]) (t := 25) ?hr ?_; (case hd => rfl); (case hg => rfl); (case hr => first | (go_simp; done) | (go_simp; rfl)); intro gb170 hg w9 hbox hb; have n0_ := mkA (below_step (by repeat (first | (with_reducible first | exact HB.out | apply wA | apply wN | apply w1_) | exact HB.out)) hb); have n1_ := mkA (hbox); have n2_ := mkA ((by rw [hg]; exact (below_size (by repeat (first | (with_reducible first | exact HB.out | apply wA | apply wN | apply w1_) | exact HB.out))) : w.heap.size ≤ gb170)); have n3_ := mkA ((by rw [hg]; exact (below_size (by repeat (first | (with_reducible first | exact HB.out | apply wA | apply wN | apply w1_) | exact HB.out))) : w.heap.size ≤ gb170)); clear HB; have HB := n0_; have BK170 := n1_; have GW170 := n2_; have GE170 := n3_; clear n0_ n1_ n2_ n3_; clear hb hbox hg; have hcz10_0 : w9.cell? ⟨gb170, 0, none⟩ = some (.int .u8 a1_0) := (blk_cell BK170.out 0).trans rfl; have hcz10_1 : w9.cell? ⟨gb170, 1, none⟩ = some (.int .u8 a1_1) := (blk_cell BK170.out 1).trans rfl; have hcz10_2 : w9.cell? ⟨gb170, 2, none⟩ = some (.string a1_2) := (blk_cell BK170.out 2).trans rfl; have hfz10_0 := blk_frozen BK170.out 0; have hfz10_1 := blk_frozen BK170.out 1; have hfz10_2 := blk_frozen BK170.out 2) | ((with_reducible refine gate_callee (f := 33) rfl ?_); refine goesL_ (some 38) rfl rfl Try.func33 (by kernel_rfl) rfl #[] rfl (by (try simp only [List.map_toArray, List.map_cons, List.map_nil]); first | done | rfl | (simp only [List.length_drop, List.length_take]; rfl)) ?_; (with_reducible refine (halyardlaw11_alive.calls  t171 _ A8.out).mono ?_); rintro e w11 ⟨rfl, hb⟩; refine ⟨_, rfl, ?_⟩; have n0_ := nB (by (with_reducible repeat first | apply bN | apply bD | apply bA); exact BK170.out) hb; have n1_ := mkA (below_step (by repeat (first | (with_reducible first | exact HB.out | apply wA | apply wN | apply w1_ | refine wS ?_ (by assumption)) | exact HB.out)) hb); clear BK170; clear HB; have BK170 := n0_; have HB := n1_; clear n0_ n1_; (try clear hb); (try clear hb2); (try clear hk); (try clear hi)))
  go_ret
  exact ⟨by first | rfl | (simp <;> rfl) | (simp [*] <;> rfl), by repeat (first | (with_reducible first | exact HB.out | apply wA | apply wN | apply w1_ | refine wS ?_ (by assumption)) | exact HB.out)⟩
 ·rw [if_neg c7] at H
  have c7b0 : decide (16384 < (wrap64 ((a1_2.size : Int) + (a3.size : Int)))) = false := decide_eq_false c7
  clear c7
  replace H := Option.bind_eq_some_iff.mp H
  obtain ⟨⟨t172, t173, t174, t175⟩, A120, H⟩ := H
  replace H : ((reject_Proto.f a0 a2 a3 a4).bind fun bt177 => ((reject_Rejected.f a1_0 a1_1 a1_2).bind fun bt182 => ((halyardref11_Rejected.f a1_0 a1_1 a1_2).bind fun bt185 => ((reject_Inner.f a1_0 a1_1 a1_2).bind fun bt188 => ((halyardref11_Inner.f a1_0 a1_1 a1_2).bind fun bt193 => ((reject_Reply.f a1_0 a1_1 a1_2 a5 a3).bind fun bt198 => (if bt182.1 = bt185.1 then (if bt182.2.1.toList = bt185.2.1.toList then (if bt182.2.2 = bt185.2.2 then (if (!(bt188.1 == bt193.1) || (!(bt188.2.1 == bt193.2.1) || (!(bt188.2.2.1.toList == bt193.2.2.1.toList)))) = true then (halyardlaw11_RejectTells.j0 k a0 a2 a3 a4 a5 t175 bt177.2.2.2 bt198.2.2.2 true a1_0 a1_1 a1_2 t172 t173 t174 bt177.1 bt177.2.1 bt177.2.2.1 bt198.1 bt198.2.1 bt198.2.2.1) else (halyardlaw11_RejectTells.j0 k a0 a2 a3 a4 a5 t175 bt177.2.2.2 bt198.2.2.2 (bt188.2.2.2 != bt193.2.2.2) a1_0 a1_1 a1_2 t172 t173 t174 bt177.1 bt177.2.1 bt177.2.2.1 bt198.1 bt198.2.1 bt198.2.2.1)) else (halyardlaw11_RejectTells.j0 k a0 a2 a3 a4 a5 t175 bt177.2.2.2 bt198.2.2.2 true a1_0 a1_1 a1_2 t172 t173 t174 bt177.1 bt177.2.1 bt177.2.2.1 bt198.1 bt198.2.1 bt198.2.2.1)) else (halyardlaw11_RejectTells.j0 k a0 a2 a3 a4 a5 t175 bt177.2.2.2 bt198.2.2.2 true a1_0 a1_1 a1_2 t172 t173 t174 bt177.1 bt177.2.1 bt177.2.2.1 bt198.1 bt198.2.1 bt198.2.2.1)) else (halyardlaw11_RejectTells.j0 k a0 a2 a3 a4 a5 t175 bt177.2.2.2 bt198.2.2.2 true a1_0 a1_1 a1_2 t172 t173 t174 bt177.1 bt177.2.1 bt177.2.2.1 bt198.1 bt198.2.1 bt198.2.2.1)))))))) = some r := H
  have A12 := mkA A120
  clear A120
  replace H := Option.bind_eq_some_iff.mp H
  obtain ⟨⟨t177, t178, t179, t180⟩, A130, H⟩ := H
  replace H : ((reject_Rejected.f a1_0 a1_1 a1_2).bind fun bt182 => ((halyardref11_Rejected.f a1_0 a1_1 a1_2).bind fun bt185 => ((reject_Inner.f a1_0 a1_1 a1_2).bind fun bt188 => ((halyardref11_Inner.f a1_0 a1_1 a1_2).bind fun bt193 => ((reject_Reply.f a1_0 a1_1 a1_2 a5 a3).bind fun bt198 => (if bt182.1 = bt185.1 then (if bt182.2.1.toList = bt185.2.1.toList then (if bt182.2.2 = bt185.2.2 then (if (!(bt188.1 == bt193.1) || (!(bt188.2.1 == bt193.2.1) || (!(bt188.2.2.1.toList == bt193.2.2.1.toList)))) = true then (halyardlaw11_RejectTells.j0 k a0 a2 a3 a4 a5 t175 t180 bt198.2.2.2 true a1_0 a1_1 a1_2 t172 t173 t174 t177 t178 t179 bt198.1 bt198.2.1 bt198.2.2.1) else (halyardlaw11_RejectTells.j0 k a0 a2 a3 a4 a5 t175 t180 bt198.2.2.2 (bt188.2.2.2 != bt193.2.2.2) a1_0 a1_1 a1_2 t172 t173 t174 t177 t178 t179 bt198.1 bt198.2.1 bt198.2.2.1)) else (halyardlaw11_RejectTells.j0 k a0 a2 a3 a4 a5 t175 t180 bt198.2.2.2 true a1_0 a1_1 a1_2 t172 t173 t174 t177 t178 t179 bt198.1 bt198.2.1 bt198.2.2.1)) else (halyardlaw11_RejectTells.j0 k a0 a2 a3 a4 a5 t175 t180 bt198.2.2.2 true a1_0 a1_1 a1_2 t172 t173 t174 t177 t178 t179 bt198.1 bt198.2.1 bt198.2.2.1)) else (halyardlaw11_RejectTells.j0 k a0 a2 a3 a4 a5 t175 t180 bt198.2.2.2 true a1_0 a1_1 a1_2 t172 t173 t174 t177 t178 t179 bt198.1 bt198.2.1 bt198.2.2.1))))))) = some r := H
  have A13 := mkA A130
  clear A130
  replace H := Option.bind_eq_some_iff.mp H
  obtain ⟨⟨t182, t183, t184⟩, A140, H⟩ := H
  replace H : ((halyardref11_Rejected.f a1_0 a1_1 a1_2).bind fun bt185 => ((reject_Inner.f a1_0 a1_1 a1_2).bind fun bt188 => ((halyardref11_Inner.f a1_0 a1_1 a1_2).bind fun bt193 => ((reject_Reply.f a1_0 a1_1 a1_2 a5 a3).bind fun bt198 => (if t182 = bt185.1 then (if t183.toList = bt185.2.1.toList then (if t184 = bt185.2.2 then (if (!(bt188.1 == bt193.1) || (!(bt188.2.1 == bt193.2.1) || (!(bt188.2.2.1.toList == bt193.2.2.1.toList)))) = true then (halyardlaw11_RejectTells.j0 k a0 a2 a3 a4 a5 t175 t180 bt198.2.2.2 true a1_0 a1_1 a1_2 t172 t173 t174 t177 t178 t179 bt198.1 bt198.2.1 bt198.2.2.1) else (halyardlaw11_RejectTells.j0 k a0 a2 a3 a4 a5 t175 t180 bt198.2.2.2 (bt188.2.2.2 != bt193.2.2.2) a1_0 a1_1 a1_2 t172 t173 t174 t177 t178 t179 bt198.1 bt198.2.1 bt198.2.2.1)) else (halyardlaw11_RejectTells.j0 k a0 a2 a3 a4 a5 t175 t180 bt198.2.2.2 true a1_0 a1_1 a1_2 t172 t173 t174 t177 t178 t179 bt198.1 bt198.2.1 bt198.2.2.1)) else (halyardlaw11_RejectTells.j0 k a0 a2 a3 a4 a5 t175 t180 bt198.2.2.2 true a1_0 a1_1 a1_2 t172 t173 t174 t177 t178 t179 bt198.1 bt198.2.1 bt198.2.2.1)) else (halyardlaw11_RejectTells.j0 k a0 a2 a3 a4 a5 t175 t180 bt198.2.2.2 true a1_0 a1_1 a1_2 t172 t173 t174 t177 t178 t179 bt198.1 bt198.2.1 bt198.2.2.1)))))) = some r := H
  have A14 := mkA A140
  clear A140
  replace H := Option.bind_eq_some_iff.mp H
  obtain ⟨⟨t185, t186, t187⟩, A150, H⟩ := H
  replace H : ((reject_Inner.f a1_0 a1_1 a1_2).bind fun bt188 => ((halyardref11_Inner.f a1_0 a1_1 a1_2).bind fun bt193 => ((reject_Reply.f a1_0 a1_1 a1_2 a5 a3).bind fun bt198 => (if t182 = t185 then (if t183.toList = t186.toList then (if t184 = t187 then (if (!(bt188.1 == bt193.1) || (!(bt188.2.1 == bt193.2.1) || (!(bt188.2.2.1.toList == bt193.2.2.1.toList)))) = true then (halyardlaw11_RejectTells.j0 k a0 a2 a3 a4 a5 t175 t180 bt198.2.2.2 true a1_0 a1_1 a1_2 t172 t173 t174 t177 t178 t179 bt198.1 bt198.2.1 bt198.2.2.1) else (halyardlaw11_RejectTells.j0 k a0 a2 a3 a4 a5 t175 t180 bt198.2.2.2 (bt188.2.2.2 != bt193.2.2.2) a1_0 a1_1 a1_2 t172 t173 t174 t177 t178 t179 bt198.1 bt198.2.1 bt198.2.2.1)) else (halyardlaw11_RejectTells.j0 k a0 a2 a3 a4 a5 t175 t180 bt198.2.2.2 true a1_0 a1_1 a1_2 t172 t173 t174 t177 t178 t179 bt198.1 bt198.2.1 bt198.2.2.1)) else (halyardlaw11_RejectTells.j0 k a0 a2 a3 a4 a5 t175 t180 bt198.2.2.2 true a1_0 a1_1 a1_2 t172 t173 t174 t177 t178 t179 bt198.1 bt198.2.1 bt198.2.2.1)) else (halyardlaw11_RejectTells.j0 k a0 a2 a3 a4 a5 t175 t180 bt198.2.2.2 true a1_0 a1_1 a1_2 t172 t173 t174 t177 t178 t179 bt198.1 bt198.2.1 bt198.2.2.1))))) = some r := H
  have A15 := mkA A150
  clear A150
  replace H := Option.bind_eq_some_iff.mp H
  obtain ⟨⟨t188, t189, t190, t191⟩, A160, H⟩ := H
  replace H : ((halyardref11_Inner.f a1_0 a1_1 a1_2).bind fun bt193 => ((reject_Reply.f a1_0 a1_1 a1_2 a5 a3).bind fun bt198 => (if t182 = t185 then (if t183.toList = t186.toList then (if t184 = t187 then (if (!(t188 == bt193.1) || (!(t189 == bt193.2.1) || (!(t190.toList == bt193.2.2.1.toList)))) = true then (halyardlaw11_RejectTells.j0 k a0 a2 a3 a4 a5 t175 t180 bt198.2.2.2 true a1_0 a1_1 a1_2 t172 t173 t174 t177 t178 t179 bt198.1 bt198.2.1 bt198.2.2.1) else (halyardlaw11_RejectTells.j0 k a0 a2 a3 a4 a5 t175 t180 bt198.2.2.2 (t191 != bt193.2.2.2) a1_0 a1_1 a1_2 t172 t173 t174 t177 t178 t179 bt198.1 bt198.2.1 bt198.2.2.1)) else (halyardlaw11_RejectTells.j0 k a0 a2 a3 a4 a5 t175 t180 bt198.2.2.2 true a1_0 a1_1 a1_2 t172 t173 t174 t177 t178 t179 bt198.1 bt198.2.1 bt198.2.2.1)) else (halyardlaw11_RejectTells.j0 k a0 a2 a3 a4 a5 t175 t180 bt198.2.2.2 true a1_0 a1_1 a1_2 t172 t173 t174 t177 t178 t179 bt198.1 bt198.2.1 bt198.2.2.1)) else (halyardlaw11_RejectTells.j0 k a0 a2 a3 a4 a5 t175 t180 bt198.2.2.2 true a1_0 a1_1 a1_2 t172 t173 t174 t177 t178 t179 bt198.1 bt198.2.1 bt198.2.2.1)))) = some r := H
  have A16 := mkA A160
  clear A160
  replace H := Option.bind_eq_some_iff.mp H
  obtain ⟨⟨t193, t194, t195, t196⟩, A170, H⟩ := H
  replace H : ((reject_Reply.f a1_0 a1_1 a1_2 a5 a3).bind fun bt198 => (if t182 = t185 then (if t183.toList = t186.toList then (if t184 = t187 then (if (!(t188 == t193) || (!(t189 == t194) || (!(t190.toList == t195.toList)))) = true then (halyardlaw11_RejectTells.j0 k a0 a2 a3 a4 a5 t175 t180 bt198.2.2.2 true a1_0 a1_1 a1_2 t172 t173 t174 t177 t178 t179 bt198.1 bt198.2.1 bt198.2.2.1) else (halyardlaw11_RejectTells.j0 k a0 a2 a3 a4 a5 t175 t180 bt198.2.2.2 (t191 != t196) a1_0 a1_1 a1_2 t172 t173 t174 t177 t178 t179 bt198.1 bt198.2.1 bt198.2.2.1)) else (halyardlaw11_RejectTells.j0 k a0 a2 a3 a4 a5 t175 t180 bt198.2.2.2 true a1_0 a1_1 a1_2 t172 t173 t174 t177 t178 t179 bt198.1 bt198.2.1 bt198.2.2.1)) else (halyardlaw11_RejectTells.j0 k a0 a2 a3 a4 a5 t175 t180 bt198.2.2.2 true a1_0 a1_1 a1_2 t172 t173 t174 t177 t178 t179 bt198.1 bt198.2.1 bt198.2.2.1)) else (halyardlaw11_RejectTells.j0 k a0 a2 a3 a4 a5 t175 t180 bt198.2.2.2 true a1_0 a1_1 a1_2 t172 t173 t174 t177 t178 t179 bt198.1 bt198.2.1 bt198.2.2.1))) = some r := H
  have A17 := mkA A170
  clear A170
  replace H := Option.bind_eq_some_iff.mp H
  obtain ⟨⟨t198, t199, t200, t201⟩, A180, H⟩ := H
  replace H : (if t182 = t185 then (if t183.toList = t186.toList then (if t184 = t187 then (if (!(t188 == t193) || (!(t189 == t194) || (!(t190.toList == t195.toList)))) = true then (halyardlaw11_RejectTells.j0 k a0 a2 a3 a4 a5 t175 t180 t201 true a1_0 a1_1 a1_2 t172 t173 t174 t177 t178 t179 t198 t199 t200) else (halyardlaw11_RejectTells.j0 k a0 a2 a3 a4 a5 t175 t180 t201 (t191 != t196) a1_0 a1_1 a1_2 t172 t173 t174 t177 t178 t179 t198 t199 t200)) else (halyardlaw11_RejectTells.j0 k a0 a2 a3 a4 a5 t175 t180 t201 true a1_0 a1_1 a1_2 t172 t173 t174 t177 t178 t179 t198 t199 t200)) else (halyardlaw11_RejectTells.j0 k a0 a2 a3 a4 a5 t175 t180 t201 true a1_0 a1_1 a1_2 t172 t173 t174 t177 t178 t179 t198 t199 t200)) else (halyardlaw11_RejectTells.j0 k a0 a2 a3 a4 a5 t175 t180 t201 true a1_0 a1_1 a1_2 t172 t173 t174 t177 t178 t179 t198 t199 t200)) = some r := H
  have A18 := mkA A180
  clear A180
  have HC19 := mkA H
  clear H
  go_enter Try.func12, Try.ntmps12
  go_upto_region 10 with (first | ((with_reducible refine gate_dst (N := 7) rfl ?_); refine box_event ?hg (N := 7) ?hd (cs := #[.int .u8 a1_0, .int .u8 a1_1, .string a1_2]) (t := 25) ?hr ?_; (case hd => rfl); (case hg => rfl); (case hr => first | (go_simp; done) | (go_simp; rfl)); intro gb170 hg w20 hbox hb; have n0_ := mkA (below_step (by repeat (first | (with_reducible first | exact HB.out | apply wA | apply wN | apply w1_) | exact HB.out)) hb); have n1_ := mkA (hbox); have n2_ := mkA ((by rw [hg]; exact (below_size (by repeat (first | (with_reducible first | exact HB.out | apply wA | apply wN | apply w1_) | exact HB.out))) : w.heap.size ≤ gb170)); have n3_ := mkA ((by rw [hg]; exact (below_size (by repeat (first | (with_reducible first | exact HB.out | apply wA | apply wN | apply w1_) | exact HB.out))) : w.heap.size ≤ gb170)); clear HB; have HB := n0_; have BK170 := n1_; have GW170 := n2_; have GE170 := n3_; clear n0_ n1_ n2_ n3_; clear hb hbox hg; have hcz21_0 : w20.cell? ⟨gb170, 0, none⟩ = some (.int .u8 a1_0) := (blk_cell BK170.out 0).trans rfl; have hcz21_1 : w20.cell? ⟨gb170, 1, none⟩ = some (.int .u8 a1_1) := (blk_cell BK170.out 1).trans rfl; have hcz21_2 : w20.cell? ⟨gb170, 2, none⟩ = some (.string a1_2) := (blk_cell BK170.out 2).trans rfl; have hfz21_0 := blk_frozen BK170.out 0; have hfz21_1 := blk_frozen BK170.out 1; have hfz21_2 := blk_frozen BK170.out 2) | ((with_reducible refine gate_callee (f := 34) rfl ?_); refine goesL_ (some 43) rfl rfl Try.func34 (by kernel_rfl) rfl #[.int .u8 a0, .agg #[.int .u8 a1_0, .int .u8 a1_1, .string a1_2], .int .i64 a4] rfl (by (try simp only [List.map_toArray, List.map_cons, List.map_nil]); first | done | rfl | (simp only [List.length_drop, List.length_take]; rfl)) ?_; (with_reducible refine (reject_Code.calls a0 a1_0 a1_1 a1_2 a4 t172 t173 t174 t175 _ A12.out).mono ?_); rintro e w22 ⟨rfl, hb⟩; refine ⟨_, rfl, ?_⟩; have n0_ := nB (by (with_reducible repeat first | apply bN | apply bD | apply bA); exact BK170.out) hb; have n1_ := mkA (below_step (by repeat (first | (with_reducible first | exact HB.out | apply wA | apply wN | apply w1_ | refine wS ?_ (by assumption)) | exact HB.out)) hb); clear BK170; clear HB; have BK170 := n0_; have HB := n1_; clear n0_ n1_; (try clear hb); (try clear hb2); (try clear hk); (try clear hi)) | ((with_reducible refine gate_dst (N := 13) rfl ?_); refine box_event ?hg (N := 13) ?hd (cs := #[.int .u8 0, .int .u8 0, .string (⟨#[]⟩ : ByteArray)]) (t := 25) ?hr ?_; (case hd => rfl); (case hg => rfl); (case hr => first | (go_simp; done) | (go_simp; rfl)); intro gb176 hg w23 hbox hb; have n0_ := nB (by (with_reducible repeat first | apply bN | apply bD | apply bA); exact BK170.out) hb; have n1_ := mkA (below_step (by repeat (first | (with_reducible first | exact HB.out | apply wA | apply wN | apply w1_ | refine wS ?_ (by assumption)) | exact HB.out)) hb); have n2_ := mkA (hbox); have n3_ := mkA ((by rw [hg]; exact (below_size (by repeat (first | (with_reducible first | exact HB.out | apply wA | apply wN | apply w1_ | refine wS ?_ (by assumption)) | exact HB.out))) : w.heap.size ≤ gb176)); have n4_ := mkA ((by rw [hg]; exact (below_size (by repeat (first | (with_reducible first | exact HB.out | apply wA | apply wN | apply w1_ | refine wS ?_ (by assumption)) | exact HB.out))) : w.heap.size ≤ gb176)); have n5_ := mkA ((by rw [hg]; exact Nat.ne_of_lt (blk_lt (g := gb170) (o := .cells #[.int .u8 a1_0, .int .u8 a1_1, .string a1_2] 25 (0, 0)) (by (with_reducible repeat first | apply bN | apply bD | apply bA); exact BK170.out)) : gb170 ≠ gb176)); have n6_ := mkA ((by rw [hg]; exact Nat.ne_of_gt (blk_lt (g := gb170) (o := .cells #[.int .u8 a1_0, .int .u8 a1_1, .string a1_2] 25 (0, 0)) (by (with_reducible repeat first | apply bN | apply bD | apply bA); exact BK170.out)) : gb176 ≠ gb170)); clear BK170; clear HB; have BK170 := n0_; have HB := n1_; have BK176 := n2_; have GW176 := n3_; have GE176 := n4_; have NB170_176 := n5_; have NB176_170 := n6_; clear n0_ n1_ n2_ n3_ n4_ n5_ n6_; clear hb hbox hg; have hnb24 := NB176_170.out; have hnc24 := NB170_176.out; have hcz25_0 : w23.cell? ⟨gb176, 0, none⟩ = some (.int .u8 0) := (blk_cell BK176.out 0).trans rfl; have hcz25_1 : w23.cell? ⟨gb176, 1, none⟩ = some (.int .u8 0) := (blk_cell BK176.out 1).trans rfl; have hcz25_2 : w23.cell? ⟨gb176, 2, none⟩ = some (.string (⟨#[]⟩ : ByteArray)) := (blk_cell BK176.out 2).trans rfl; have hfz25_0 := blk_frozen BK176.out 0; have hfz25_1 := blk_frozen BK176.out 1; have hfz25_2 := blk_frozen BK176.out 2) | ((with_reducible refine gate_callee (f := 35) rfl ?_); refine goesL_ (some 51) rfl rfl Try.func35 (by kernel_rfl) rfl #[.int .u8 a0, .int .u16 a2, .string a3, .int .i64 a4] rfl (by (try simp only [List.map_toArray, List.map_cons, List.map_nil]); first | done | rfl | (simp only [List.length_drop, List.length_take]; rfl)) ?_; (with_reducible refine (reject_Proto.calls a0 a2 a3 a4 t177 t178 t179 t180 _ A13.out).mono ?_); rintro e w26 ⟨rfl, hb⟩; refine ⟨_, rfl, ?_⟩; have n0_ := mkA (blk_below (g := gb170) (o := .cells #[.int .u8 a1_0, .int .u8 a1_1, .string a1_2] 25 (0, 0)) (by (with_reducible repeat first | apply bN | apply bD | apply bA); refine blk_far ?_ NB170_176.out _; (with_reducible repeat first | apply bN | apply bD | apply bA); refine blk_far ?_ NB170_176.out _; (with_reducible repeat first | apply bN | apply bD | apply bA); refine blk_far ?_ NB170_176.out _; (with_reducible repeat first | apply bN | apply bD | apply bA); exact BK170.out) hb); have n1_ := mkA (blk_below (g := gb176) (o := .cells #[.int .u8 t172, .int .u8 t173, .string t174] 25 (0, 0)) (by (with_reducible repeat first | apply bN | apply bD | apply bA); refine blk_put (cs := #[.int .u8 t172, .int .u8 t173, .string (⟨#[]⟩ : ByteArray)]) ?_ 2 _ rfl; (with_reducible repeat first | apply bN | apply bD | apply bA); refine blk_put (cs := #[.int .u8 t172, .int .u8 0, .string (⟨#[]⟩ : ByteArray)]) ?_ 1 _ rfl; (with_reducible repeat first | apply bN | apply bD | apply bA); refine blk_put (cs := #[.int .u8 0, .int .u8 0, .string (⟨#[]⟩ : ByteArray)]) ?_ 0 _ rfl; (with_reducible repeat first | apply bN | apply bD | apply bA); exact BK176.out) hb); have n2_ := mkA (below_step (by repeat (first | (with_reducible first | exact HB.out | apply wA | apply wN | apply w1_ | refine wS ?_ (by assumption)) | exact HB.out)) hb); clear BK170; clear BK176; clear HB; have BK170 := n0_; have BK176 := n1_; have HB := n2_; clear n0_ n1_ n2_; (try clear hb); (try clear hb2); (try clear hk); (try clear hi)) | ((with_reducible refine gate_dst (N := 15) rfl ?_); refine box_event ?hg (N := 15) ?hd (cs := #[.int .u8 0, .int .u8 0, .string (⟨#[]⟩ : ByteArray)]) (t := 25) ?hr ?_; (case hd => rfl); (case hg => rfl); (case hr => first | (go_simp; done) | (go_simp; rfl)); intro gb181 hg w27 hbox hb; have n0_ := nB (by (with_reducible repeat first | apply bN | apply bD | apply bA); exact BK170.out) hb; have n1_ := nB (by (with_reducible repeat first | apply bN | apply bD | apply bA); exact BK176.out) hb; have n2_ := mkA (below_step (by repeat (first | (with_reducible first | exact HB.out | apply wA | apply wN | apply w1_ | refine wS ?_ (by assumption)) | exact HB.out)) hb); have n3_ := mkA (hbox); have n4_ := mkA ((by rw [hg]; exact (below_size (by repeat (first | (with_reducible first | exact HB.out | apply wA | apply wN | apply w1_ | refine wS ?_ (by assumption)) | exact HB.out))) : w.heap.size ≤ gb181)); have n5_ := mkA ((by rw [hg]; exact (below_size (by repeat (first | (with_reducible first | exact HB.out | apply wA | apply wN | apply w1_ | refine wS ?_ (by assumption)) | exact HB.out))) : w.heap.size ≤ gb181)); have n6_ := mkA ((by rw [hg]; exact Nat.ne_of_lt (blk_lt (g := gb170) (o := .cells #[.int .u8 a1_0, .int .u8 a1_1, .string a1_2] 25 (0, 0)) (by (with_reducible repeat first | apply bN | apply bD | apply bA); exact BK170.out)) : gb170 ≠ gb181)); have n7_ := mkA ((by rw [hg]; exact Nat.ne_of_gt (blk_lt (g := gb170) (o := .cells #[.int .u8 a1_0, .int .u8 a1_1, .string a1_2] 25 (0, 0)) (by (with_reducible repeat first | apply bN | apply bD | apply bA); exact BK170.out)) : gb181 ≠ gb170)); have n8_ := mkA ((by rw [hg]; exact Nat.ne_of_lt (blk_lt (g := gb176) (o := .cells #[.int .u8 t172, .int .u8 t173, .string t174] 25 (0, 0)) (by (with_reducible repeat first | apply bN | apply bD | apply bA); exact BK176.out)) : gb176 ≠ gb181)); have n9_ := mkA ((by rw [hg]; exact Nat.ne_of_gt (blk_lt (g := gb176) (o := .cells #[.int .u8 t172, .int .u8 t173, .string t174] 25 (0, 0)) (by (with_reducible repeat first | apply bN | apply bD | apply bA); exact BK176.out)) : gb181 ≠ gb176)); clear BK170; clear BK176; clear HB; have BK170 := n0_; have BK176 := n1_; have HB := n2_; have BK181 := n3_; have GW181 := n4_; have GE181 := n5_; have NB170_181 := n6_; have NB181_170 := n7_; have NB176_181 := n8_; have NB181_176 := n9_; clear n0_ n1_ n2_ n3_ n4_ n5_ n6_ n7_ n8_ n9_; clear hb hbox hg; have hnb28 := NB181_170.out; have hnc28 := NB170_181.out; have hnb29 := NB181_176.out; have hnc29 := NB176_181.out; have hcz30_0 : w27.cell? ⟨gb181, 0, none⟩ = some (.int .u8 0) := (blk_cell BK181.out 0).trans rfl; have hcz30_1 : w27.cell? ⟨gb181, 1, none⟩ = some (.int .u8 0) := (blk_cell BK181.out 1).trans rfl; have hcz30_2 : w27.cell? ⟨gb181, 2, none⟩ = some (.string (⟨#[]⟩ : ByteArray)) := (blk_cell BK181.out 2).trans rfl; have hfz30_0 := blk_frozen BK181.out 0; have hfz30_1 := blk_frozen BK181.out 1; have hfz30_2 := blk_frozen BK181.out 2; have hcz31_0 : w27.cell? ⟨gb170, 0, none⟩ = some (.int .u8 a1_0) := (blk_cell BK170.out 0).trans rfl; have hcz31_1 : w27.cell? ⟨gb170, 1, none⟩ = some (.int .u8 a1_1) := (blk_cell BK170.out 1).trans rfl; have hcz31_2 : w27.cell? ⟨gb170, 2, none⟩ = some (.string a1_2) := (blk_cell BK170.out 2).trans rfl; have hfz31_0 := blk_frozen BK170.out 0; have hfz31_1 := blk_frozen BK170.out 1; have hfz31_2 := blk_frozen BK170.out 2) | ((with_reducible refine gate_callee (f := 38) rfl ?_); refine goesL_ (some 56) rfl rfl Try.func38 (by kernel_rfl) rfl #[.agg #[.int .u8 a1_0, .int .u8 a1_1, .string a1_2]] rfl (by (try simp only [List.map_toArray, List.map_cons, List.map_nil]); first | done | rfl | (simp only [List.length_drop, List.length_take]; rfl)) ?_; (with_reducible refine (reject_Rejected.calls a1_0 a1_1 a1_2 t182 t183 t184 _ A14.out).mono ?_); rintro e w32 ⟨rfl, hb⟩; refine ⟨_, rfl, ?_⟩; have n0_ := mkA (blk_below (g := gb170) (o := .cells #[.int .u8 a1_0, .int .u8 a1_1, .string a1_2] 25 (0, 0)) (by (with_reducible repeat first | apply bN | apply bD | apply bA); refine blk_far ?_ NB170_181.out _; (with_reducible repeat first | apply bN | apply bD | apply bA); refine blk_far ?_ NB170_181.out _; (with_reducible repeat first | apply bN | apply bD | apply bA); refine blk_far ?_ NB170_181.out _; (with_reducible repeat first | apply bN | apply bD | apply bA); exact BK170.out) hb); have n1_ := mkA (blk_below (g := gb176) (o := .cells #[.int .u8 t172, .int .u8 t173, .string t174] 25 (0, 0)) (by (with_reducible repeat first | apply bN | apply bD | apply bA); refine blk_far ?_ NB176_181.out _; (with_reducible repeat first | apply bN | apply bD | apply bA); refine blk_far ?_ NB176_181.out _; (with_reducible repeat first | apply bN | apply bD | apply bA); refine blk_far ?_ NB176_181.out _; (with_reducible repeat first | apply bN | apply bD | apply bA); exact BK176.out) hb); have n2_ := mkA (blk_below (g := gb181) (o := .cells #[.int .u8 t177, .int .u8 t178, .string t179] 25 (0, 0)) (by (with_reducible repeat first | apply bN | apply bD | apply bA); refine blk_put (cs := #[.int .u8 t177, .int .u8 t178, .string (⟨#[]⟩ : ByteArray)]) ?_ 2 _ rfl; (with_reducible repeat first | apply bN | apply bD | apply bA); refine blk_put (cs := #[.int .u8 t177, .int .u8 0, .string (⟨#[]⟩ : ByteArray)]) ?_ 1 _ rfl; (with_reducible repeat first | apply bN | apply bD | apply bA); refine blk_put (cs := #[.int .u8 0, .int .u8 0, .string (⟨#[]⟩ : ByteArray)]) ?_ 0 _ rfl; (with_reducible repeat first | apply bN | apply bD | apply bA); exact BK181.out) hb); have n3_ := mkA (below_step (by repeat (first | (with_reducible first | exact HB.out | apply wA | apply wN | apply w1_ | refine wS ?_ (by assumption)) | exact HB.out)) hb); clear BK170; clear BK176; clear BK181; clear HB; have BK170 := n0_; have BK176 := n1_; have BK181 := n2_; have HB := n3_; clear n0_ n1_ n2_ n3_; (try clear hb); (try clear hb2); (try clear hk); (try clear hi); have hcz33_0 : w32.cell? ⟨gb170, 0, none⟩ = some (.int .u8 a1_0) := (blk_cell BK170.out 0).trans rfl; have hcz33_1 : w32.cell? ⟨gb170, 1, none⟩ = some (.int .u8 a1_1) := (blk_cell BK170.out 1).trans rfl; have hcz33_2 : w32.cell? ⟨gb170, 2, none⟩ = some (.string a1_2) := (blk_cell BK170.out 2).trans rfl; have hfz33_0 := blk_frozen BK170.out 0; have hfz33_1 := blk_frozen BK170.out 1; have hfz33_2 := blk_frozen BK170.out 2) | ((with_reducible refine gate_callee (f := 39) rfl ?_); refine goesL_ (some 62) rfl rfl Try.func39 (by kernel_rfl) rfl #[.agg #[.int .u8 a1_0, .int .u8 a1_1, .string a1_2]] rfl (by (try simp only [List.map_toArray, List.map_cons, List.map_nil]); first | done | rfl | (simp only [List.length_drop, List.length_take]; rfl)) ?_; (with_reducible refine (halyardref11_Rejected.calls a1_0 a1_1 a1_2 t185 t186 t187 _ A15.out).mono ?_); rintro e w34 ⟨rfl, hb⟩; refine ⟨_, rfl, ?_⟩; have n0_ := nB (by (with_reducible repeat first | apply bN | apply bD | apply bA); exact BK170.out) hb; have n1_ := nB (by (with_reducible repeat first | apply bN | apply bD | apply bA); exact BK176.out) hb; have n2_ := nB (by (with_reducible repeat first | apply bN | apply bD | apply bA); exact BK181.out) hb; have n3_ := mkA (below_step (by repeat (first | (with_reducible first | exact HB.out | apply wA | apply wN | apply w1_ | refine wS ?_ (by assumption)) | exact HB.out)) hb); clear BK170; clear BK176; clear BK181; clear HB; have BK170 := n0_; have BK176 := n1_; have BK181 := n2_; have HB := n3_; clear n0_ n1_ n2_ n3_; (try clear hb); (try clear hb2); (try clear hk); (try clear hi); have hcz35_0 : w34.cell? ⟨gb170, 0, none⟩ = some (.int .u8 a1_0) := (blk_cell BK170.out 0).trans rfl; have hcz35_1 : w34.cell? ⟨gb170, 1, none⟩ = some (.int .u8 a1_1) := (blk_cell BK170.out 1).trans rfl; have hcz35_2 : w34.cell? ⟨gb170, 2, none⟩ = some (.string a1_2) := (blk_cell BK170.out 2).trans rfl; have hfz35_0 := blk_frozen BK170.out 0; have hfz35_1 := blk_frozen BK170.out 1; have hfz35_2 := blk_frozen BK170.out 2) | ((with_reducible refine gate_callee (f := 37) rfl ?_); refine goesL_ (some 68) rfl rfl Try.func37 (by kernel_rfl) rfl #[.agg #[.int .u8 a1_0, .int .u8 a1_1, .string a1_2]] rfl (by (try simp only [List.map_toArray, List.map_cons, List.map_nil]); first | done | rfl | (simp only [List.length_drop, List.length_take]; rfl)) ?_; (with_reducible refine (reject_Inner.calls a1_0 a1_1 a1_2 t188 t189 t190 t191 _ A16.out).mono ?_); rintro e w36 ⟨rfl, hb⟩; refine ⟨_, rfl, ?_⟩; have n0_ := nB (by (with_reducible repeat first | apply bN | apply bD | apply bA); exact BK170.out) hb; have n1_ := nB (by (with_reducible repeat first | apply bN | apply bD | apply bA); exact BK176.out) hb; have n2_ := nB (by (with_reducible repeat first | apply bN | apply bD | apply bA); exact BK181.out) hb; have n3_ := mkA (below_step (by repeat (first | (with_reducible first | exact HB.out | apply wA | apply wN | apply w1_ | refine wS ?_ (by assumption)) | exact HB.out)) hb); clear BK170; clear BK176; clear BK181; clear HB; have BK170 := n0_; have BK176 := n1_; have BK181 := n2_; have HB := n3_; clear n0_ n1_ n2_ n3_; (try clear hb); (try clear hb2); (try clear hk); (try clear hi)) | ((with_reducible refine gate_dst (N := 23) rfl ?_); refine box_event ?hg (N := 23) ?hd (cs := #[.int .u8 0, .int .u8 0, .string (⟨#[]⟩ : ByteArray)]) (t := 25) ?hr ?_; (case hd => rfl); (case hg => rfl); (case hr => first | (go_simp; done) | (go_simp; rfl)); intro gb192 hg w37 hbox hb; have n0_ := nB (by (with_reducible repeat first | apply bN | apply bD | apply bA); exact BK170.out) hb; have n1_ := nB (by (with_reducible repeat first | apply bN | apply bD | apply bA); exact BK176.out) hb; have n2_ := nB (by (with_reducible repeat first | apply bN | apply bD | apply bA); exact BK181.out) hb; have n3_ := mkA (below_step (by repeat (first | (with_reducible first | exact HB.out | apply wA | apply wN | apply w1_ | refine wS ?_ (by assumption)) | exact HB.out)) hb); have n4_ := mkA (hbox); have n5_ := mkA ((by rw [hg]; exact (below_size (by repeat (first | (with_reducible first | exact HB.out | apply wA | apply wN | apply w1_ | refine wS ?_ (by assumption)) | exact HB.out))) : w.heap.size ≤ gb192)); have n6_ := mkA ((by rw [hg]; exact (below_size (by repeat (first | (with_reducible first | exact HB.out | apply wA | apply wN | apply w1_ | refine wS ?_ (by assumption)) | exact HB.out))) : w.heap.size ≤ gb192)); have n7_ := mkA ((by rw [hg]; exact Nat.ne_of_lt (blk_lt (g := gb170) (o := .cells #[.int .u8 a1_0, .int .u8 a1_1, .string a1_2] 25 (0, 0)) (by (with_reducible repeat first | apply bN | apply bD | apply bA); exact BK170.out)) : gb170 ≠ gb192)); have n8_ := mkA ((by rw [hg]; exact Nat.ne_of_gt (blk_lt (g := gb170) (o := .cells #[.int .u8 a1_0, .int .u8 a1_1, .string a1_2] 25 (0, 0)) (by (with_reducible repeat first | apply bN | apply bD | apply bA); exact BK170.out)) : gb192 ≠ gb170)); have n9_ := mkA ((by rw [hg]; exact Nat.ne_of_lt (blk_lt (g := gb176) (o := .cells #[.int .u8 t172, .int .u8 t173, .string t174] 25 (0, 0)) (by (with_reducible repeat first | apply bN | apply bD | apply bA); exact BK176.out)) : gb176 ≠ gb192)); have n10_ := mkA ((by rw [hg]; exact Nat.ne_of_gt (blk_lt (g := gb176) (o := .cells #[.int .u8 t172, .int .u8 t173, .string t174] 25 (0, 0)) (by (with_reducible repeat first | apply bN | apply bD | apply bA); exact BK176.out)) : gb192 ≠ gb176)); have n11_ := mkA ((by rw [hg]; exact Nat.ne_of_lt (blk_lt (g := gb181) (o := .cells #[.int .u8 t177, .int .u8 t178, .string t179] 25 (0, 0)) (by (with_reducible repeat first | apply bN | apply bD | apply bA); exact BK181.out)) : gb181 ≠ gb192)); have n12_ := mkA ((by rw [hg]; exact Nat.ne_of_gt (blk_lt (g := gb181) (o := .cells #[.int .u8 t177, .int .u8 t178, .string t179] 25 (0, 0)) (by (with_reducible repeat first | apply bN | apply bD | apply bA); exact BK181.out)) : gb192 ≠ gb181)); clear BK170; clear BK176; clear BK181; clear HB; have BK170 := n0_; have BK176 := n1_; have BK181 := n2_; have HB := n3_; have BK192 := n4_; have GW192 := n5_; have GE192 := n6_; have NB170_192 := n7_; have NB192_170 := n8_; have NB176_192 := n9_; have NB192_176 := n10_; have NB181_192 := n11_; have NB192_181 := n12_; clear n0_ n1_ n2_ n3_ n4_ n5_ n6_ n7_ n8_ n9_ n10_ n11_ n12_; clear hb hbox hg; have hnb38 := NB192_170.out; have hnc38 := NB170_192.out; have hnb39 := NB192_176.out; have hnc39 := NB176_192.out; have hnb40 := NB192_181.out; have hnc40 := NB181_192.out; have hcz41_0 : w37.cell? ⟨gb192, 0, none⟩ = some (.int .u8 0) := (blk_cell BK192.out 0).trans rfl; have hcz41_1 : w37.cell? ⟨gb192, 1, none⟩ = some (.int .u8 0) := (blk_cell BK192.out 1).trans rfl; have hcz41_2 : w37.cell? ⟨gb192, 2, none⟩ = some (.string (⟨#[]⟩ : ByteArray)) := (blk_cell BK192.out 2).trans rfl; have hfz41_0 := blk_frozen BK192.out 0; have hfz41_1 := blk_frozen BK192.out 1; have hfz41_2 := blk_frozen BK192.out 2; have hcz42_0 : w37.cell? ⟨gb170, 0, none⟩ = some (.int .u8 a1_0) := (blk_cell BK170.out 0).trans rfl; have hcz42_1 : w37.cell? ⟨gb170, 1, none⟩ = some (.int .u8 a1_1) := (blk_cell BK170.out 1).trans rfl; have hcz42_2 : w37.cell? ⟨gb170, 2, none⟩ = some (.string a1_2) := (blk_cell BK170.out 2).trans rfl; have hfz42_0 := blk_frozen BK170.out 0; have hfz42_1 := blk_frozen BK170.out 1; have hfz42_2 := blk_frozen BK170.out 2) | ((with_reducible refine gate_callee (f := 40) rfl ?_); refine goesL_ (some 73) rfl rfl Try.func40 (by kernel_rfl) rfl #[.agg #[.int .u8 a1_0, .int .u8 a1_1, .string a1_2]] rfl (by (try simp only [List.map_toArray, List.map_cons, List.map_nil]); first | done | rfl | (simp only [List.length_drop, List.length_take]; rfl)) ?_; (with_reducible refine (halyardref11_Inner.calls a1_0 a1_1 a1_2 t193 t194 t195 t196 _ A17.out).mono ?_); rintro e w43 ⟨rfl, hb⟩; refine ⟨_, rfl, ?_⟩; have n0_ := mkA (blk_below (g := gb170) (o := .cells #[.int .u8 a1_0, .int .u8 a1_1, .string a1_2] 25 (0, 0)) (by (with_reducible repeat first | apply bN | apply bD | apply bA); refine blk_far ?_ NB170_192.out _; (with_reducible repeat first | apply bN | apply bD | apply bA); refine blk_far ?_ NB170_192.out _; (with_reducible repeat first | apply bN | apply bD | apply bA); refine blk_far ?_ NB170_192.out _; (with_reducible repeat first | apply bN | apply bD | apply bA); exact BK170.out) hb); have n1_ := mkA (blk_below (g := gb176) (o := .cells #[.int .u8 t172, .int .u8 t173, .string t174] 25 (0, 0)) (by (with_reducible repeat first | apply bN | apply bD | apply bA); refine blk_far ?_ NB176_192.out _; (with_reducible repeat first | apply bN | apply bD | apply bA); refine blk_far ?_ NB176_192.out _; (with_reducible repeat first | apply bN | apply bD | apply bA); refine blk_far ?_ NB176_192.out _; (with_reducible repeat first | apply bN | apply bD | apply bA); exact BK176.out) hb); have n2_ := mkA (blk_below (g := gb181) (o := .cells #[.int .u8 t177, .int .u8 t178, .string t179] 25 (0, 0)) (by (with_reducible repeat first | apply bN | apply bD | apply bA); refine blk_far ?_ NB181_192.out _; (with_reducible repeat first | apply bN | apply bD | apply bA); refine blk_far ?_ NB181_192.out _; (with_reducible repeat first | apply bN | apply bD | apply bA); refine blk_far ?_ NB181_192.out _; (with_reducible repeat first | apply bN | apply bD | apply bA); exact BK181.out) hb); have n3_ := mkA (blk_below (g := gb192) (o := .cells #[.int .u8 t188, .int .u8 t189, .string t190] 25 (0, 0)) (by (with_reducible repeat first | apply bN | apply bD | apply bA); refine blk_put (cs := #[.int .u8 t188, .int .u8 t189, .string (⟨#[]⟩ : ByteArray)]) ?_ 2 _ rfl; (with_reducible repeat first | apply bN | apply bD | apply bA); refine blk_put (cs := #[.int .u8 t188, .int .u8 0, .string (⟨#[]⟩ : ByteArray)]) ?_ 1 _ rfl; (with_reducible repeat first | apply bN | apply bD | apply bA); refine blk_put (cs := #[.int .u8 0, .int .u8 0, .string (⟨#[]⟩ : ByteArray)]) ?_ 0 _ rfl; (with_reducible repeat first | apply bN | apply bD | apply bA); exact BK192.out) hb); have n4_ := mkA (below_step (by repeat (first | (with_reducible first | exact HB.out | apply wA | apply wN | apply w1_ | refine wS ?_ (by assumption)) | exact HB.out)) hb); clear BK170; clear BK176; clear BK181; clear BK192; clear HB; have BK170 := n0_; have BK176 := n1_; have BK181 := n2_; have BK192 := n3_; have HB := n4_; clear n0_ n1_ n2_ n3_ n4_; (try clear hb); (try clear hb2); (try clear hk); (try clear hi)) | ((with_reducible refine gate_dst (N := 25) rfl ?_); refine box_event ?hg (N := 25) ?hd (cs := #[.int .u8 0, .int .u8 0, .string (⟨#[]⟩ : ByteArray)]) (t := 25) ?hr ?_; (case hd => rfl); (case hg => rfl); (case hr => first | (go_simp; done) | (go_simp; rfl)); intro gb197 hg w44 hbox hb; have n0_ := nB (by (with_reducible repeat first | apply bN | apply bD | apply bA); exact BK170.out) hb; have n1_ := nB (by (with_reducible repeat first | apply bN | apply bD | apply bA); exact BK176.out) hb; have n2_ := nB (by (with_reducible repeat first | apply bN | apply bD | apply bA); exact BK181.out) hb; have n3_ := nB (by (with_reducible repeat first | apply bN | apply bD | apply bA); exact BK192.out) hb; have n4_ := mkA (below_step (by repeat (first | (with_reducible first | exact HB.out | apply wA | apply wN | apply w1_ | refine wS ?_ (by assumption)) | exact HB.out)) hb); have n5_ := mkA (hbox); have n6_ := mkA ((by rw [hg]; exact (below_size (by repeat (first | (with_reducible first | exact HB.out | apply wA | apply wN | apply w1_ | refine wS ?_ (by assumption)) | exact HB.out))) : w.heap.size ≤ gb197)); have n7_ := mkA ((by rw [hg]; exact (below_size (by repeat (first | (with_reducible first | exact HB.out | apply wA | apply wN | apply w1_ | refine wS ?_ (by assumption)) | exact HB.out))) : w.heap.size ≤ gb197)); have n8_ := mkA ((by rw [hg]; exact Nat.ne_of_lt (blk_lt (g := gb170) (o := .cells #[.int .u8 a1_0, .int .u8 a1_1, .string a1_2] 25 (0, 0)) (by (with_reducible repeat first | apply bN | apply bD | apply bA); exact BK170.out)) : gb170 ≠ gb197)); have n9_ := mkA ((by rw [hg]; exact Nat.ne_of_gt (blk_lt (g := gb170) (o := .cells #[.int .u8 a1_0, .int .u8 a1_1, .string a1_2] 25 (0, 0)) (by (with_reducible repeat first | apply bN | apply bD | apply bA); exact BK170.out)) : gb197 ≠ gb170)); have n10_ := mkA ((by rw [hg]; exact Nat.ne_of_lt (blk_lt (g := gb176) (o := .cells #[.int .u8 t172, .int .u8 t173, .string t174] 25 (0, 0)) (by (with_reducible repeat first | apply bN | apply bD | apply bA); exact BK176.out)) : gb176 ≠ gb197)); have n11_ := mkA ((by rw [hg]; exact Nat.ne_of_gt (blk_lt (g := gb176) (o := .cells #[.int .u8 t172, .int .u8 t173, .string t174] 25 (0, 0)) (by (with_reducible repeat first | apply bN | apply bD | apply bA); exact BK176.out)) : gb197 ≠ gb176)); have n12_ := mkA ((by rw [hg]; exact Nat.ne_of_lt (blk_lt (g := gb181) (o := .cells #[.int .u8 t177, .int .u8 t178, .string t179] 25 (0, 0)) (by (with_reducible repeat first | apply bN | apply bD | apply bA); exact BK181.out)) : gb181 ≠ gb197)); have n13_ := mkA ((by rw [hg]; exact Nat.ne_of_gt (blk_lt (g := gb181) (o := .cells #[.int .u8 t177, .int .u8 t178, .string t179] 25 (0, 0)) (by (with_reducible repeat first | apply bN | apply bD | apply bA); exact BK181.out)) : gb197 ≠ gb181)); have n14_ := mkA ((by rw [hg]; exact Nat.ne_of_lt (blk_lt (g := gb192) (o := .cells #[.int .u8 t188, .int .u8 t189, .string t190] 25 (0, 0)) (by (with_reducible repeat first | apply bN | apply bD | apply bA); exact BK192.out)) : gb192 ≠ gb197)); have n15_ := mkA ((by rw [hg]; exact Nat.ne_of_gt (blk_lt (g := gb192) (o := .cells #[.int .u8 t188, .int .u8 t189, .string t190] 25 (0, 0)) (by (with_reducible repeat first | apply bN | apply bD | apply bA); exact BK192.out)) : gb197 ≠ gb192)); clear BK170; clear BK176; clear BK181; clear BK192; clear HB; have BK170 := n0_; have BK176 := n1_; have BK181 := n2_; have BK192 := n3_; have HB := n4_; have BK197 := n5_; have GW197 := n6_; have GE197 := n7_; have NB170_197 := n8_; have NB197_170 := n9_; have NB176_197 := n10_; have NB197_176 := n11_; have NB181_197 := n12_; have NB197_181 := n13_; have NB192_197 := n14_; have NB197_192 := n15_; clear n0_ n1_ n2_ n3_ n4_ n5_ n6_ n7_ n8_ n9_ n10_ n11_ n12_ n13_ n14_ n15_; clear hb hbox hg; have hnb45 := NB197_170.out; have hnc45 := NB170_197.out; have hnb46 := NB197_176.out; have hnc46 := NB176_197.out; have hnb47 := NB197_181.out; have hnc47 := NB181_197.out; have hnb48 := NB197_192.out; have hnc48 := NB192_197.out; have hcz49_0 : w44.cell? ⟨gb197, 0, none⟩ = some (.int .u8 0) := (blk_cell BK197.out 0).trans rfl; have hcz49_1 : w44.cell? ⟨gb197, 1, none⟩ = some (.int .u8 0) := (blk_cell BK197.out 1).trans rfl; have hcz49_2 : w44.cell? ⟨gb197, 2, none⟩ = some (.string (⟨#[]⟩ : ByteArray)) := (blk_cell BK197.out 2).trans rfl; have hfz49_0 := blk_frozen BK197.out 0; have hfz49_1 := blk_frozen BK197.out 1; have hfz49_2 := blk_frozen BK197.out 2; have hcz50_0 : w44.cell? ⟨gb170, 0, none⟩ = some (.int .u8 a1_0) := (blk_cell BK170.out 0).trans rfl; have hcz50_1 : w44.cell? ⟨gb170, 1, none⟩ = some (.int .u8 a1_1) := (blk_cell BK170.out 1).trans rfl; have hcz50_2 : w44.cell? ⟨gb170, 2, none⟩ = some (.string a1_2) := (blk_cell BK170.out 2).trans rfl; have hfz50_0 := blk_frozen BK170.out 0; have hfz50_1 := blk_frozen BK170.out 1; have hfz50_2 := blk_frozen BK170.out 2) | ((with_reducible refine gate_callee (f := 41) rfl ?_); refine goesL_ (some 80) rfl rfl Try.func41 (by kernel_rfl) rfl #[.agg #[.int .u8 a1_0, .int .u8 a1_1, .string a1_2], .int .u8 a5, .string a3] rfl (by (try simp only [List.map_toArray, List.map_cons, List.map_nil]); first | done | rfl | (simp only [List.length_drop, List.length_take]; rfl)) ?_; (with_reducible refine (reject_Reply.calls a1_0 a1_1 a1_2 a5 a3 t198 t199 t200 t201 _ A18.out).mono ?_); rintro e w51 ⟨rfl, hb⟩; refine ⟨_, rfl, ?_⟩; have n0_ := mkA (blk_below (g := gb170) (o := .cells #[.int .u8 a1_0, .int .u8 a1_1, .string a1_2] 25 (0, 0)) (by (with_reducible repeat first | apply bN | apply bD | apply bA); refine blk_far ?_ NB170_197.out _; (with_reducible repeat first | apply bN | apply bD | apply bA); refine blk_far ?_ NB170_197.out _; (with_reducible repeat first | apply bN | apply bD | apply bA); refine blk_far ?_ NB170_197.out _; (with_reducible repeat first | apply bN | apply bD | apply bA); exact BK170.out) hb); have n1_ := mkA (blk_below (g := gb176) (o := .cells #[.int .u8 t172, .int .u8 t173, .string t174] 25 (0, 0)) (by (with_reducible repeat first | apply bN | apply bD | apply bA); refine blk_far ?_ NB176_197.out _; (with_reducible repeat first | apply bN | apply bD | apply bA); refine blk_far ?_ NB176_197.out _; (with_reducible repeat first | apply bN | apply bD | apply bA); refine blk_far ?_ NB176_197.out _; (with_reducible repeat first | apply bN | apply bD | apply bA); exact BK176.out) hb); have n2_ := mkA (blk_below (g := gb181) (o := .cells #[.int .u8 t177, .int .u8 t178, .string t179] 25 (0, 0)) (by (with_reducible repeat first | apply bN | apply bD | apply bA); refine blk_far ?_ NB181_197.out _; (with_reducible repeat first | apply bN | apply bD | apply bA); refine blk_far ?_ NB181_197.out _; (with_reducible repeat first | apply bN | apply bD | apply bA); refine blk_far ?_ NB181_197.out _; (with_reducible repeat first | apply bN | apply bD | apply bA); exact BK181.out) hb); have n3_ := mkA (blk_below (g := gb192) (o := .cells #[.int .u8 t188, .int .u8 t189, .string t190] 25 (0, 0)) (by (with_reducible repeat first | apply bN | apply bD | apply bA); refine blk_far ?_ NB192_197.out _; (with_reducible repeat first | apply bN | apply bD | apply bA); refine blk_far ?_ NB192_197.out _; (with_reducible repeat first | apply bN | apply bD | apply bA); refine blk_far ?_ NB192_197.out _; (with_reducible repeat first | apply bN | apply bD | apply bA); exact BK192.out) hb); have n4_ := mkA (blk_below (g := gb197) (o := .cells #[.int .u8 t193, .int .u8 t194, .string t195] 25 (0, 0)) (by (with_reducible repeat first | apply bN | apply bD | apply bA); refine blk_put (cs := #[.int .u8 t193, .int .u8 t194, .string (⟨#[]⟩ : ByteArray)]) ?_ 2 _ rfl; (with_reducible repeat first | apply bN | apply bD | apply bA); refine blk_put (cs := #[.int .u8 t193, .int .u8 0, .string (⟨#[]⟩ : ByteArray)]) ?_ 1 _ rfl; (with_reducible repeat first | apply bN | apply bD | apply bA); refine blk_put (cs := #[.int .u8 0, .int .u8 0, .string (⟨#[]⟩ : ByteArray)]) ?_ 0 _ rfl; (with_reducible repeat first | apply bN | apply bD | apply bA); exact BK197.out) hb); have n5_ := mkA (below_step (by repeat (first | (with_reducible first | exact HB.out | apply wA | apply wN | apply w1_ | refine wS ?_ (by assumption)) | exact HB.out)) hb); clear BK170; clear BK176; clear BK181; clear BK192; clear BK197; clear HB; have BK170 := n0_; have BK176 := n1_; have BK181 := n2_; have BK192 := n3_; have BK197 := n4_; have HB := n5_; clear n0_ n1_ n2_ n3_ n4_ n5_; (try clear hb); (try clear hb2); (try clear hk); (try clear hi)) | ((with_reducible refine gate_dst (N := 27) rfl ?_); refine box_event ?hg (N := 27) ?hd (cs := #[.int .u8 0, .int .u8 0, .string (⟨#[]⟩ : ByteArray)]) (t := 25) ?hr ?_; (case hd => rfl); (case hg => rfl); (case hr => first | (go_simp; done) | (go_simp; rfl)); intro gb202 hg w52 hbox hb; have n0_ := nB (by (with_reducible repeat first | apply bN | apply bD | apply bA); exact BK170.out) hb; have n1_ := nB (by (with_reducible repeat first | apply bN | apply bD | apply bA); exact BK176.out) hb; have n2_ := nB (by (with_reducible repeat first | apply bN | apply bD | apply bA); exact BK181.out) hb; have n3_ := nB (by (with_reducible repeat first | apply bN | apply bD | apply bA); exact BK192.out) hb; have n4_ := nB (by (with_reducible repeat first | apply bN | apply bD | apply bA); exact BK197.out) hb; have n5_ := mkA (below_step (by repeat (first | (with_reducible first | exact HB.out | apply wA | apply wN | apply w1_ | refine wS ?_ (by assumption)) | exact HB.out)) hb); have n6_ := mkA (hbox); have n7_ := mkA ((by rw [hg]; exact (below_size (by repeat (first | (with_reducible first | exact HB.out | apply wA | apply wN | apply w1_ | refine wS ?_ (by assumption)) | exact HB.out))) : w.heap.size ≤ gb202)); have n8_ := mkA ((by rw [hg]; exact (below_size (by repeat (first | (with_reducible first | exact HB.out | apply wA | apply wN | apply w1_ | refine wS ?_ (by assumption)) | exact HB.out))) : w.heap.size ≤ gb202)); have n9_ := mkA ((by rw [hg]; exact Nat.ne_of_lt (blk_lt (g := gb170) (o := .cells #[.int .u8 a1_0, .int .u8 a1_1, .string a1_2] 25 (0, 0)) (by (with_reducible repeat first | apply bN | apply bD | apply bA); exact BK170.out)) : gb170 ≠ gb202)); have n10_ := mkA ((by rw [hg]; exact Nat.ne_of_gt (blk_lt (g := gb170) (o := .cells #[.int .u8 a1_0, .int .u8 a1_1, .string a1_2] 25 (0, 0)) (by (with_reducible repeat first | apply bN | apply bD | apply bA); exact BK170.out)) : gb202 ≠ gb170)); have n11_ := mkA ((by rw [hg]; exact Nat.ne_of_lt (blk_lt (g := gb176) (o := .cells #[.int .u8 t172, .int .u8 t173, .string t174] 25 (0, 0)) (by (with_reducible repeat first | apply bN | apply bD | apply bA); exact BK176.out)) : gb176 ≠ gb202)); have n12_ := mkA ((by rw [hg]; exact Nat.ne_of_gt (blk_lt (g := gb176) (o := .cells #[.int .u8 t172, .int .u8 t173, .string t174] 25 (0, 0)) (by (with_reducible repeat first | apply bN | apply bD | apply bA); exact BK176.out)) : gb202 ≠ gb176)); have n13_ := mkA ((by rw [hg]; exact Nat.ne_of_lt (blk_lt (g := gb181) (o := .cells #[.int .u8 t177, .int .u8 t178, .string t179] 25 (0, 0)) (by (with_reducible repeat first | apply bN | apply bD | apply bA); exact BK181.out)) : gb181 ≠ gb202)); have n14_ := mkA ((by rw [hg]; exact Nat.ne_of_gt (blk_lt (g := gb181) (o := .cells #[.int .u8 t177, .int .u8 t178, .string t179] 25 (0, 0)) (by (with_reducible repeat first | apply bN | apply bD | apply bA); exact BK181.out)) : gb202 ≠ gb181)); have n15_ := mkA ((by rw [hg]; exact Nat.ne_of_lt (blk_lt (g := gb192) (o := .cells #[.int .u8 t188, .int .u8 t189, .string t190] 25 (0, 0)) (by (with_reducible repeat first | apply bN | apply bD | apply bA); exact BK192.out)) : gb192 ≠ gb202)); have n16_ := mkA ((by rw [hg]; exact Nat.ne_of_gt (blk_lt (g := gb192) (o := .cells #[.int .u8 t188, .int .u8 t189, .string t190] 25 (0, 0)) (by (with_reducible repeat first | apply bN | apply bD | apply bA); exact BK192.out)) : gb202 ≠ gb192)); have n17_ := mkA ((by rw [hg]; exact Nat.ne_of_lt (blk_lt (g := gb197) (o := .cells #[.int .u8 t193, .int .u8 t194, .string t195] 25 (0, 0)) (by (with_reducible repeat first | apply bN | apply bD | apply bA); exact BK197.out)) : gb197 ≠ gb202)); have n18_ := mkA ((by rw [hg]; exact Nat.ne_of_gt (blk_lt (g := gb197) (o := .cells #[.int .u8 t193, .int .u8 t194, .string t195] 25 (0, 0)) (by (with_reducible repeat first | apply bN | apply bD | apply bA); exact BK197.out)) : gb202 ≠ gb197)); clear BK170; clear BK176; clear BK181; clear BK192; clear BK197; clear HB; have BK170 := n0_; have BK176 := n1_; have BK181 := n2_; have BK192 := n3_; have BK197 := n4_; have HB := n5_; have BK202 := n6_; have GW202 := n7_; have GE202 := n8_; have NB170_202 := n9_; have NB202_170 := n10_; have NB176_202 := n11_; have NB202_176 := n12_; have NB181_202 := n13_; have NB202_181 := n14_; have NB192_202 := n15_; have NB202_192 := n16_; have NB197_202 := n17_; have NB202_197 := n18_; clear n0_ n1_ n2_ n3_ n4_ n5_ n6_ n7_ n8_ n9_ n10_ n11_ n12_ n13_ n14_ n15_ n16_ n17_ n18_; clear hb hbox hg; have hnb53 := NB202_170.out; have hnc53 := NB170_202.out; have hnb54 := NB202_176.out; have hnc54 := NB176_202.out; have hnb55 := NB202_181.out; have hnc55 := NB181_202.out; have hnb56 := NB202_192.out; have hnc56 := NB192_202.out; have hnb57 := NB202_197.out; have hnc57 := NB197_202.out; have hcz58_0 : w52.cell? ⟨gb202, 0, none⟩ = some (.int .u8 0) := (blk_cell BK202.out 0).trans rfl; have hcz58_1 : w52.cell? ⟨gb202, 1, none⟩ = some (.int .u8 0) := (blk_cell BK202.out 1).trans rfl; have hcz58_2 : w52.cell? ⟨gb202, 2, none⟩ = some (.string (⟨#[]⟩ : ByteArray)) := (blk_cell BK202.out 2).trans rfl; have hfz58_0 := blk_frozen BK202.out 0; have hfz58_1 := blk_frozen BK202.out 1; have hfz58_2 := blk_frozen BK202.out 2))
  (try simp only [Act.put, List.setIfInBounds_toArray, List.set_cons_zero, List.set_cons_succ])
  go_cut [105] (fun v105 wc => ∃ (kq : Nat) (x105_18 : Bool), v105 = .bool x105_18 ∧ Aside0 (halyardlaw11_RejectTells.j0 kq a0 a2 a3 a4 a5 t175 t180 t201 x105_18 a1_0 a1_1 a1_2 t172 t173 t174 t177 t178 t179 t198 t199 t200 = some r) ∧ Aside0 (kq ≤ k) ∧ Aside0 (wc.heap[gb170]? = some (.cells #[.int .u8 a1_0, .int .u8 a1_1, .string a1_2] 25 (0, 0))) ∧ Aside0 (wc.heap[gb176]? = some (.cells #[.int .u8 t172, .int .u8 t173, .string t174] 25 (0, 0))) ∧ Aside0 (wc.heap[gb181]? = some (.cells #[.int .u8 t177, .int .u8 t178, .string t179] 25 (0, 0))) ∧ Aside0 (wc.heap[gb192]? = some (.cells #[.int .u8 t188, .int .u8 t189, .string t190] 25 (0, 0))) ∧ Aside0 (wc.heap[gb197]? = some (.cells #[.int .u8 t193, .int .u8 t194, .string t195] 25 (0, 0))) ∧ Aside0 (wc.heap[gb202]? = some (.cells #[.int .u8 t198, .int .u8 t199, .string t200] 25 (0, 0))) ∧ Aside0 (Below w.heap.size w wc))
  case first =>
   have H := HC19.out
   clear HC19
   by_cases c59 : t182 = t185
   ·rw [if_pos c59] at H
    have c59b0 : (t182 == t185) = true := beq_iff_eq.mpr c59
    have c59b1 : (t182 != t185) = false := bne_eq_false_iff_eq.mpr c59
    clear c59
    (first | rw [c59b0] | (simp only [i64_w, i32_w]; rw [c59b0]) | skip)
    by_cases c60 : t183.toList = t186.toList
    ·rw [if_pos c60] at H
     have c60b0 : (t183.toList == t186.toList) = true := beq_iff_eq.mpr c60
     have c60b1 : (t183.toList != t186.toList) = false := bne_eq_false_iff_eq.mpr c60
     clear c60
     by_cases c61 : t184 = t187
     ·rw [if_pos c61] at H
      have c61b0 : (t184 == t187) = true := beq_iff_eq.mpr c61
      have c61b1 : (t184 != t187) = false := bne_eq_false_iff_eq.mpr c61
      clear c61
      by_cases c62 : (!(t188 == t193) || (!(t189 == t194) || (!(t190.toList == t195.toList)))) = true
      ·rw [if_pos c62] at H
       have c62b0 : (!(t188 == t193) || (!(t189 == t194) || (!(t190.toList == t195.toList)))) = true := c62
       (try (have c62q_ : (t188 = t193 ∧ t189 = t194 ∧ t190.toList = t195.toList) = False := eq_false (fun h_ => by have z_ := c62b0; simp [h_.1, h_.2.1, h_.2.2] at z_)))
       clear c62
       have H' := mkA H
       clear H
       have hnb63 := NB192_170.out
       have hnc63 := NB170_192.out
       have hnb64 := NB192_176.out
       have hnc64 := NB176_192.out
       have hnb65 := NB192_181.out
       have hnc65 := NB181_192.out
       have hnb66 := NB192_197.out
       have hnc66 := NB197_192.out
       have hnb67 := NB192_202.out
       have hnc67 := NB202_192.out
       have hcz68_0 : w52.cell? ⟨gb192, 0, none⟩ = some (.int .u8 t188) := (blk_cell BK192.out 0).trans rfl
       have hcz68_1 : w52.cell? ⟨gb192, 1, none⟩ = some (.int .u8 t189) := (blk_cell BK192.out 1).trans rfl
       have hcz68_2 : w52.cell? ⟨gb192, 2, none⟩ = some (.string t190) := (blk_cell BK192.out 2).trans rfl
       have hfz68_0 := blk_frozen BK192.out 0
       have hfz68_1 := blk_frozen BK192.out 1
       have hfz68_2 := blk_frozen BK192.out 2
       have hnb69 := NB197_170.out
       have hnc69 := NB170_197.out
       have hnb70 := NB197_176.out
       have hnc70 := NB176_197.out
       have hnb71 := NB197_181.out
       have hnc71 := NB181_197.out
       have hnb72 := NB197_202.out
       have hnc72 := NB202_197.out
       have hcz73_0 : w52.cell? ⟨gb197, 0, none⟩ = some (.int .u8 t193) := (blk_cell BK197.out 0).trans rfl
       have hcz73_1 : w52.cell? ⟨gb197, 1, none⟩ = some (.int .u8 t194) := (blk_cell BK197.out 1).trans rfl
       have hcz73_2 : w52.cell? ⟨gb197, 2, none⟩ = some (.string t195) := (blk_cell BK197.out 2).trans rfl
       have hfz73_0 := blk_frozen BK197.out 0
       have hfz73_1 := blk_frozen BK197.out 1
       have hfz73_2 := blk_frozen BK197.out 2
       go_wp2
       go_meet
       case rel => exact ⟨_, (true), (by first | rfl | (simp; done) | (simp [*]; done)), H', ⟨by first | omega | exact Nat.le_refl _⟩, ⟨by (with_reducible repeat first | apply bN | apply bD | apply bA); refine blk_far ?_ NB170_202.out _; (with_reducible repeat first | apply bN | apply bD | apply bA); refine blk_far ?_ NB170_202.out _; (with_reducible repeat first | apply bN | apply bD | apply bA); refine blk_far ?_ NB170_202.out _; (with_reducible repeat first | apply bN | apply bD | apply bA); exact BK170.out⟩, ⟨by (with_reducible repeat first | apply bN | apply bD | apply bA); refine blk_far ?_ NB176_202.out _; (with_reducible repeat first | apply bN | apply bD | apply bA); refine blk_far ?_ NB176_202.out _; (with_reducible repeat first | apply bN | apply bD | apply bA); refine blk_far ?_ NB176_202.out _; (with_reducible repeat first | apply bN | apply bD | apply bA); exact BK176.out⟩, ⟨by (with_reducible repeat first | apply bN | apply bD | apply bA); refine blk_far ?_ NB181_202.out _; (with_reducible repeat first | apply bN | apply bD | apply bA); refine blk_far ?_ NB181_202.out _; (with_reducible repeat first | apply bN | apply bD | apply bA); refine blk_far ?_ NB181_202.out _; (with_reducible repeat first | apply bN | apply bD | apply bA); exact BK181.out⟩, ⟨by (with_reducible repeat first | apply bN | apply bD | apply bA); refine blk_far ?_ NB192_202.out _; (with_reducible repeat first | apply bN | apply bD | apply bA); refine blk_far ?_ NB192_202.out _; (with_reducible repeat first | apply bN | apply bD | apply bA); refine blk_far ?_ NB192_202.out _; (with_reducible repeat first | apply bN | apply bD | apply bA); exact BK192.out⟩, ⟨by (with_reducible repeat first | apply bN | apply bD | apply bA); refine blk_far ?_ NB197_202.out _; (with_reducible repeat first | apply bN | apply bD | apply bA); refine blk_far ?_ NB197_202.out _; (with_reducible repeat first | apply bN | apply bD | apply bA); refine blk_far ?_ NB197_202.out _; (with_reducible repeat first | apply bN | apply bD | apply bA); exact BK197.out⟩, ⟨by (with_reducible repeat first | apply bN | apply bD | apply bA); refine blk_put (cs := #[.int .u8 t198, .int .u8 t199, .string (⟨#[]⟩ : ByteArray)]) ?_ 2 _ rfl; (with_reducible repeat first | apply bN | apply bD | apply bA); refine blk_put (cs := #[.int .u8 t198, .int .u8 0, .string (⟨#[]⟩ : ByteArray)]) ?_ 1 _ rfl; (with_reducible repeat first | apply bN | apply bD | apply bA); refine blk_put (cs := #[.int .u8 0, .int .u8 0, .string (⟨#[]⟩ : ByteArray)]) ?_ 0 _ rfl; (with_reducible repeat first | apply bN | apply bD | apply bA); exact BK202.out⟩, ⟨by repeat (first | (with_reducible first | exact HB.out | apply wA | apply wN | apply w1_ | refine wS ?_ (by assumption)) | exact HB.out)⟩⟩
      ·rw [if_neg c62] at H
       have c62b0 : (!(t188 == t193) || (!(t189 == t194) || (!(t190.toList == t195.toList)))) = false := by simpa using c62
       (try (have c62q_ : t188 = t193 ∧ t189 = t194 ∧ t190.toList = t195.toList := (by simpa using c62b0)))
       (try (have c62p0_ : (t188 = t193) = True := eq_true c62q_.1))
       (try (have c62p1_ : (t189 = t194) = True := eq_true c62q_.2.1))
       (try (have c62p2_ : (t190.toList = t195.toList) = True := eq_true c62q_.2.2))
       (try clear c62q_)
       clear c62
       have H' := mkA H
       clear H
       have hnb74 := NB192_170.out
       have hnc74 := NB170_192.out
       have hnb75 := NB192_176.out
       have hnc75 := NB176_192.out
       have hnb76 := NB192_181.out
       have hnc76 := NB181_192.out
       have hnb77 := NB192_197.out
       have hnc77 := NB197_192.out
       have hnb78 := NB192_202.out
       have hnc78 := NB202_192.out
       have hcz79_0 : w52.cell? ⟨gb192, 0, none⟩ = some (.int .u8 t188) := (blk_cell BK192.out 0).trans rfl
       have hcz79_1 : w52.cell? ⟨gb192, 1, none⟩ = some (.int .u8 t189) := (blk_cell BK192.out 1).trans rfl
       have hcz79_2 : w52.cell? ⟨gb192, 2, none⟩ = some (.string t190) := (blk_cell BK192.out 2).trans rfl
       have hfz79_0 := blk_frozen BK192.out 0
       have hfz79_1 := blk_frozen BK192.out 1
       have hfz79_2 := blk_frozen BK192.out 2
       have hnb80 := NB197_170.out
       have hnc80 := NB170_197.out
       have hnb81 := NB197_176.out
       have hnc81 := NB176_197.out
       have hnb82 := NB197_181.out
       have hnc82 := NB181_197.out
       have hnb83 := NB197_202.out
       have hnc83 := NB202_197.out
       have hcz84_0 : w52.cell? ⟨gb197, 0, none⟩ = some (.int .u8 t193) := (blk_cell BK197.out 0).trans rfl
       have hcz84_1 : w52.cell? ⟨gb197, 1, none⟩ = some (.int .u8 t194) := (blk_cell BK197.out 1).trans rfl
       have hcz84_2 : w52.cell? ⟨gb197, 2, none⟩ = some (.string t195) := (blk_cell BK197.out 2).trans rfl
       have hfz84_0 := blk_frozen BK197.out 0
       have hfz84_1 := blk_frozen BK197.out 1
       have hfz84_2 := blk_frozen BK197.out 2
       go_wp2
       go_meet
       case rel => exact ⟨_, ((t191 != t196)), (by first | rfl | (simp; done) | (simp [*]; done)), H', ⟨by first | omega | exact Nat.le_refl _⟩, ⟨by (with_reducible repeat first | apply bN | apply bD | apply bA); refine blk_far ?_ NB170_202.out _; (with_reducible repeat first | apply bN | apply bD | apply bA); refine blk_far ?_ NB170_202.out _; (with_reducible repeat first | apply bN | apply bD | apply bA); refine blk_far ?_ NB170_202.out _; (with_reducible repeat first | apply bN | apply bD | apply bA); exact BK170.out⟩, ⟨by (with_reducible repeat first | apply bN | apply bD | apply bA); refine blk_far ?_ NB176_202.out _; (with_reducible repeat first | apply bN | apply bD | apply bA); refine blk_far ?_ NB176_202.out _; (with_reducible repeat first | apply bN | apply bD | apply bA); refine blk_far ?_ NB176_202.out _; (with_reducible repeat first | apply bN | apply bD | apply bA); exact BK176.out⟩, ⟨by (with_reducible repeat first | apply bN | apply bD | apply bA); refine blk_far ?_ NB181_202.out _; (with_reducible repeat first | apply bN | apply bD | apply bA); refine blk_far ?_ NB181_202.out _; (with_reducible repeat first | apply bN | apply bD | apply bA); refine blk_far ?_ NB181_202.out _; (with_reducible repeat first | apply bN | apply bD | apply bA); exact BK181.out⟩, ⟨by (with_reducible repeat first | apply bN | apply bD | apply bA); refine blk_far ?_ NB192_202.out _; (with_reducible repeat first | apply bN | apply bD | apply bA); refine blk_far ?_ NB192_202.out _; (with_reducible repeat first | apply bN | apply bD | apply bA); refine blk_far ?_ NB192_202.out _; (with_reducible repeat first | apply bN | apply bD | apply bA); exact BK192.out⟩, ⟨by (with_reducible repeat first | apply bN | apply bD | apply bA); refine blk_far ?_ NB197_202.out _; (with_reducible repeat first | apply bN | apply bD | apply bA); refine blk_far ?_ NB197_202.out _; (with_reducible repeat first | apply bN | apply bD | apply bA); refine blk_far ?_ NB197_202.out _; (with_reducible repeat first | apply bN | apply bD | apply bA); exact BK197.out⟩, ⟨by (with_reducible repeat first | apply bN | apply bD | apply bA); refine blk_put (cs := #[.int .u8 t198, .int .u8 t199, .string (⟨#[]⟩ : ByteArray)]) ?_ 2 _ rfl; (with_reducible repeat first | apply bN | apply bD | apply bA); refine blk_put (cs := #[.int .u8 t198, .int .u8 0, .string (⟨#[]⟩ : ByteArray)]) ?_ 1 _ rfl; (with_reducible repeat first | apply bN | apply bD | apply bA); refine blk_put (cs := #[.int .u8 0, .int .u8 0, .string (⟨#[]⟩ : ByteArray)]) ?_ 0 _ rfl; (with_reducible repeat first | apply bN | apply bD | apply bA); exact BK202.out⟩, ⟨by repeat (first | (with_reducible first | exact HB.out | apply wA | apply wN | apply w1_ | refine wS ?_ (by assumption)) | exact HB.out)⟩⟩
     ·rw [if_neg c61] at H
      have c61b0 : (t184 == t187) = false := beq_eq_false_iff_ne.mpr c61
      have c61b1 : (t184 != t187) = true := bne_iff_ne.mpr c61
      have H' := mkA H
      clear H
      go_wp2
      go_meet
      case rel => exact ⟨_, (true), (by first | rfl | (simp; done) | (simp [*]; done)), H', ⟨by first | omega | exact Nat.le_refl _⟩, ⟨by (with_reducible repeat first | apply bN | apply bD | apply bA); refine blk_far ?_ NB170_202.out _; (with_reducible repeat first | apply bN | apply bD | apply bA); refine blk_far ?_ NB170_202.out _; (with_reducible repeat first | apply bN | apply bD | apply bA); refine blk_far ?_ NB170_202.out _; (with_reducible repeat first | apply bN | apply bD | apply bA); exact BK170.out⟩, ⟨by (with_reducible repeat first | apply bN | apply bD | apply bA); refine blk_far ?_ NB176_202.out _; (with_reducible repeat first | apply bN | apply bD | apply bA); refine blk_far ?_ NB176_202.out _; (with_reducible repeat first | apply bN | apply bD | apply bA); refine blk_far ?_ NB176_202.out _; (with_reducible repeat first | apply bN | apply bD | apply bA); exact BK176.out⟩, ⟨by (with_reducible repeat first | apply bN | apply bD | apply bA); refine blk_far ?_ NB181_202.out _; (with_reducible repeat first | apply bN | apply bD | apply bA); refine blk_far ?_ NB181_202.out _; (with_reducible repeat first | apply bN | apply bD | apply bA); refine blk_far ?_ NB181_202.out _; (with_reducible repeat first | apply bN | apply bD | apply bA); exact BK181.out⟩, ⟨by (with_reducible repeat first | apply bN | apply bD | apply bA); refine blk_far ?_ NB192_202.out _; (with_reducible repeat first | apply bN | apply bD | apply bA); refine blk_far ?_ NB192_202.out _; (with_reducible repeat first | apply bN | apply bD | apply bA); refine blk_far ?_ NB192_202.out _; (with_reducible repeat first | apply bN | apply bD | apply bA); exact BK192.out⟩, ⟨by (with_reducible repeat first | apply bN | apply bD | apply bA); refine blk_far ?_ NB197_202.out _; (with_reducible repeat first | apply bN | apply bD | apply bA); refine blk_far ?_ NB197_202.out _; (with_reducible repeat first | apply bN | apply bD | apply bA); refine blk_far ?_ NB197_202.out _; (with_reducible repeat first | apply bN | apply bD | apply bA); exact BK197.out⟩, ⟨by (with_reducible repeat first | apply bN | apply bD | apply bA); refine blk_put (cs := #[.int .u8 t198, .int .u8 t199, .string (⟨#[]⟩ : ByteArray)]) ?_ 2 _ rfl; (with_reducible repeat first | apply bN | apply bD | apply bA); refine blk_put (cs := #[.int .u8 t198, .int .u8 0, .string (⟨#[]⟩ : ByteArray)]) ?_ 1 _ rfl; (with_reducible repeat first | apply bN | apply bD | apply bA); refine blk_put (cs := #[.int .u8 0, .int .u8 0, .string (⟨#[]⟩ : ByteArray)]) ?_ 0 _ rfl; (with_reducible repeat first | apply bN | apply bD | apply bA); exact BK202.out⟩, ⟨by repeat (first | (with_reducible first | exact HB.out | apply wA | apply wN | apply w1_ | refine wS ?_ (by assumption)) | exact HB.out)⟩⟩
    ·rw [if_neg c60] at H
     have c60b0 : (t183.toList == t186.toList) = false := beq_eq_false_iff_ne.mpr c60
     have c60b1 : (t183.toList != t186.toList) = true := bne_iff_ne.mpr c60
     have H' := mkA H
     clear H
     go_wp2
     go_meet
     case rel => exact ⟨_, (true), (by first | rfl | (simp; done) | (simp [*]; done)), H', ⟨by first | omega | exact Nat.le_refl _⟩, ⟨by (with_reducible repeat first | apply bN | apply bD | apply bA); refine blk_far ?_ NB170_202.out _; (with_reducible repeat first | apply bN | apply bD | apply bA); refine blk_far ?_ NB170_202.out _; (with_reducible repeat first | apply bN | apply bD | apply bA); refine blk_far ?_ NB170_202.out _; (with_reducible repeat first | apply bN | apply bD | apply bA); exact BK170.out⟩, ⟨by (with_reducible repeat first | apply bN | apply bD | apply bA); refine blk_far ?_ NB176_202.out _; (with_reducible repeat first | apply bN | apply bD | apply bA); refine blk_far ?_ NB176_202.out _; (with_reducible repeat first | apply bN | apply bD | apply bA); refine blk_far ?_ NB176_202.out _; (with_reducible repeat first | apply bN | apply bD | apply bA); exact BK176.out⟩, ⟨by (with_reducible repeat first | apply bN | apply bD | apply bA); refine blk_far ?_ NB181_202.out _; (with_reducible repeat first | apply bN | apply bD | apply bA); refine blk_far ?_ NB181_202.out _; (with_reducible repeat first | apply bN | apply bD | apply bA); refine blk_far ?_ NB181_202.out _; (with_reducible repeat first | apply bN | apply bD | apply bA); exact BK181.out⟩, ⟨by (with_reducible repeat first | apply bN | apply bD | apply bA); refine blk_far ?_ NB192_202.out _; (with_reducible repeat first | apply bN | apply bD | apply bA); refine blk_far ?_ NB192_202.out _; (with_reducible repeat first | apply bN | apply bD | apply bA); refine blk_far ?_ NB192_202.out _; (with_reducible repeat first | apply bN | apply bD | apply bA); exact BK192.out⟩, ⟨by (with_reducible repeat first | apply bN | apply bD | apply bA); refine blk_far ?_ NB197_202.out _; (with_reducible repeat first | apply bN | apply bD | apply bA); refine blk_far ?_ NB197_202.out _; (with_reducible repeat first | apply bN | apply bD | apply bA); refine blk_far ?_ NB197_202.out _; (with_reducible repeat first | apply bN | apply bD | apply bA); exact BK197.out⟩, ⟨by (with_reducible repeat first | apply bN | apply bD | apply bA); refine blk_put (cs := #[.int .u8 t198, .int .u8 t199, .string (⟨#[]⟩ : ByteArray)]) ?_ 2 _ rfl; (with_reducible repeat first | apply bN | apply bD | apply bA); refine blk_put (cs := #[.int .u8 t198, .int .u8 0, .string (⟨#[]⟩ : ByteArray)]) ?_ 1 _ rfl; (with_reducible repeat first | apply bN | apply bD | apply bA); refine blk_put (cs := #[.int .u8 0, .int .u8 0, .string (⟨#[]⟩ : ByteArray)]) ?_ 0 _ rfl; (with_reducible repeat first | apply bN | apply bD | apply bA); exact BK202.out⟩, ⟨by repeat (first | (with_reducible first | exact HB.out | apply wA | apply wN | apply w1_ | refine wS ?_ (by assumption)) | exact HB.out)⟩⟩
   ·rw [if_neg c59] at H
    have c59b0 : (t182 == t185) = false := beq_eq_false_iff_ne.mpr c59
    have c59b1 : (t182 != t185) = true := bne_iff_ne.mpr c59
    (first | rw [c59b0] | (simp only [i64_w, i32_w]; rw [c59b0]) | skip)
    have H' := mkA H
    clear H
    go_wp2
    go_meet
    case rel => exact ⟨_, (true), (by first | rfl | (simp; done) | (simp [*]; done)), H', ⟨by first | omega | exact Nat.le_refl _⟩, ⟨by (with_reducible repeat first | apply bN | apply bD | apply bA); refine blk_far ?_ NB170_202.out _; (with_reducible repeat first | apply bN | apply bD | apply bA); refine blk_far ?_ NB170_202.out _; (with_reducible repeat first | apply bN | apply bD | apply bA); refine blk_far ?_ NB170_202.out _; (with_reducible repeat first | apply bN | apply bD | apply bA); exact BK170.out⟩, ⟨by (with_reducible repeat first | apply bN | apply bD | apply bA); refine blk_far ?_ NB176_202.out _; (with_reducible repeat first | apply bN | apply bD | apply bA); refine blk_far ?_ NB176_202.out _; (with_reducible repeat first | apply bN | apply bD | apply bA); refine blk_far ?_ NB176_202.out _; (with_reducible repeat first | apply bN | apply bD | apply bA); exact BK176.out⟩, ⟨by (with_reducible repeat first | apply bN | apply bD | apply bA); refine blk_far ?_ NB181_202.out _; (with_reducible repeat first | apply bN | apply bD | apply bA); refine blk_far ?_ NB181_202.out _; (with_reducible repeat first | apply bN | apply bD | apply bA); refine blk_far ?_ NB181_202.out _; (with_reducible repeat first | apply bN | apply bD | apply bA); exact BK181.out⟩, ⟨by (with_reducible repeat first | apply bN | apply bD | apply bA); refine blk_far ?_ NB192_202.out _; (with_reducible repeat first | apply bN | apply bD | apply bA); refine blk_far ?_ NB192_202.out _; (with_reducible repeat first | apply bN | apply bD | apply bA); refine blk_far ?_ NB192_202.out _; (with_reducible repeat first | apply bN | apply bD | apply bA); exact BK192.out⟩, ⟨by (with_reducible repeat first | apply bN | apply bD | apply bA); refine blk_far ?_ NB197_202.out _; (with_reducible repeat first | apply bN | apply bD | apply bA); refine blk_far ?_ NB197_202.out _; (with_reducible repeat first | apply bN | apply bD | apply bA); refine blk_far ?_ NB197_202.out _; (with_reducible repeat first | apply bN | apply bD | apply bA); exact BK197.out⟩, ⟨by (with_reducible repeat first | apply bN | apply bD | apply bA); refine blk_put (cs := #[.int .u8 t198, .int .u8 t199, .string (⟨#[]⟩ : ByteArray)]) ?_ 2 _ rfl; (with_reducible repeat first | apply bN | apply bD | apply bA); refine blk_put (cs := #[.int .u8 t198, .int .u8 0, .string (⟨#[]⟩ : ByteArray)]) ?_ 1 _ rfl; (with_reducible repeat first | apply bN | apply bD | apply bA); refine blk_put (cs := #[.int .u8 0, .int .u8 0, .string (⟨#[]⟩ : ByteArray)]) ?_ 0 _ rfl; (with_reducible repeat first | apply bN | apply bD | apply bA); exact BK202.out⟩, ⟨by repeat (first | (with_reducible first | exact HB.out | apply wA | apply wN | apply w1_ | refine wS ?_ (by assumption)) | exact HB.out)⟩⟩
  case rest =>
   clear HC19
   try clear c1
   try clear c2
   try clear p2
   try clear c3
   try clear c4
   try clear c5
   try clear c6
   try clear p6
   try clear c7
   try clear c7b0
   try clear c8
   try clear c12
   try clear c24
   try clear c28
   try clear c29
   try clear c33
   try clear c34
   try clear c35
   try clear c37
   try clear c38
   try clear c39
   try clear c40
   try clear c41
   try clear c45
   try clear c46
   try clear c47
   try clear c48
   try clear c53
   try clear c54
   try clear c55
   try clear c56
   try clear c57
   try clear c59
   try clear c59b0
   try clear c59b1
   try clear c60
   try clear c60b0
   try clear c60b1
   try clear c61
   try clear c61b0
   try clear c61b1
   try clear c62
   try clear c62b0
   try clear c63
   try clear c64
   try clear p64
   try clear c65
   try clear c66
   try clear c67
   try clear c69
   try clear c70
   try clear c71
   try clear c72
   try clear c74
   try clear c75
   try clear c76
   try clear c77
   try clear c78
   try clear c80
   try clear c81
   try clear c82
   try clear c83
   try clear hcz10_0
   try clear hcz10_1
   try clear hcz10_2
   try clear hcz21_0
   try clear hcz21_1
   try clear hcz21_2
   try clear hcz25_0
   try clear hcz25_1
   try clear hcz25_2
   try clear hcz30_0
   try clear hcz30_1
   try clear hcz30_2
   try clear hcz31_0
   try clear hcz31_1
   try clear hcz31_2
   try clear hcz33_0
   try clear hcz33_1
   try clear hcz33_2
   try clear hcz35_0
   try clear hcz35_1
   try clear hcz35_2
   try clear hcz41_0
   try clear hcz41_1
   try clear hcz41_2
   try clear hcz42_0
   try clear hcz42_1
   try clear hcz42_2
   try clear hcz49_0
   try clear hcz49_1
   try clear hcz49_2
   try clear hcz50_0
   try clear hcz50_1
   try clear hcz50_2
   try clear hcz58_0
   try clear hcz58_1
   try clear hcz58_2
   try clear hcz68_0
   try clear hcz68_1
   try clear hcz68_2
   try clear hcz73_0
   try clear hcz73_1
   try clear hcz73_2
   try clear hcz79_0
   try clear hcz79_1
   try clear hcz79_2
   try clear hcz84_0
   try clear hcz84_1
   try clear hcz84_2
   try clear hfz10_0
   try clear hfz10_1
   try clear hfz10_2
   try clear hfz21_0
   try clear hfz21_1
   try clear hfz21_2
   try clear hfz25_0
   try clear hfz25_1
   try clear hfz25_2
   try clear hfz30_0
   try clear hfz30_1
   try clear hfz30_2
   try clear hfz31_0
   try clear hfz31_1
   try clear hfz31_2
   try clear hfz33_0
   try clear hfz33_1
   try clear hfz33_2
   try clear hfz35_0
   try clear hfz35_1
   try clear hfz35_2
   try clear hfz41_0
   try clear hfz41_1
   try clear hfz41_2
   try clear hfz42_0
   try clear hfz42_1
   try clear hfz42_2
   try clear hfz49_0
   try clear hfz49_1
   try clear hfz49_2
   try clear hfz50_0
   try clear hfz50_1
   try clear hfz50_2
   try clear hfz58_0
   try clear hfz58_1
   try clear hfz58_2
   try clear hfz68_0
   try clear hfz68_1
   try clear hfz68_2
   try clear hfz73_0
   try clear hfz73_1
   try clear hfz73_2
   try clear hfz79_0
   try clear hfz79_1
   try clear hfz79_2
   try clear hfz84_0
   try clear hfz84_1
   try clear hfz84_2
   obtain ⟨kq, x105_18, rfl, HA, HJ18, BK170, BK176, BK181, BK192, BK197, BK202, HB⟩ := hcut
   cases kq with
   | zero => exact absurd HA.out (by simp [halyardlaw11_RejectTells.j0])
   | succ kj18 =>
    have H := HA.out
    clear HA
    simp only [halyardlaw11_RejectTells.j0] at H
    by_cases c85 : x105_18 = true
    ·subst c85
     have H1 : (some false) = some r := by rw [if_pos rfl] at H; exact H
     clear H
     have H := H1
     clear H1
     obtain rfl := Option.some.inj H
     go_wp2
     go_ret
     exact ⟨by first | rfl | (simp <;> rfl) | (simp [*] <;> rfl), by repeat (first | (with_reducible first | exact HB.out | apply wA | apply wN | apply w1_ | refine wS ?_ (by assumption)) | exact HB.out)⟩
    ·replace c85 := Bool.eq_false_iff.mpr c85
     subst c85
     have H1 : (if (a3.size : Int) > 1496 then (if (!(t198 == 0) || (!(t199 == 0) || (!(t200.toList == ([] : List UInt8))))) = true then (some false) else (if t201 = 5 then (halyardlaw11_RejectTells.j1 kj18 a0 a2 a3 a4 t175 t180 a1_0 a1_1 a1_2 t172 t173 t174 t177 t178 t179) else (some false))) else (if (!(t198 == a5) || (!(t199 == a1_1) || (!(t200.toList == a3.toList)))) = true then (some false) else (if t201 = 0 then (halyardlaw11_RejectTells.j1 kj18 a0 a2 a3 a4 t175 t180 a1_0 a1_1 a1_2 t172 t173 t174 t177 t178 t179) else (some false)))) = some r := by rw [if_neg (show ¬ (false = true) by decide)] at H; exact H
     clear H
     have H := H1
     clear H1
     have HC86 := mkA H
     clear H
     go_upto_if 108 with (fail)
     go_cut [] (fun wc => ∃ (kq : Nat), Aside0 (halyardlaw11_RejectTells.j1 kq a0 a2 a3 a4 t175 t180 a1_0 a1_1 a1_2 t172 t173 t174 t177 t178 t179 = some r) ∧ Aside0 (kq ≤ kj18) ∧ Aside0 (wc.heap[gb170]? = some (.cells #[.int .u8 a1_0, .int .u8 a1_1, .string a1_2] 25 (0, 0))) ∧ Aside0 (wc.heap[gb176]? = some (.cells #[.int .u8 t172, .int .u8 t173, .string t174] 25 (0, 0))) ∧ Aside0 (wc.heap[gb181]? = some (.cells #[.int .u8 t177, .int .u8 t178, .string t179] 25 (0, 0))) ∧ Aside0 (wc.heap[gb192]? = some (.cells #[.int .u8 t188, .int .u8 t189, .string t190] 25 (0, 0))) ∧ Aside0 (wc.heap[gb197]? = some (.cells #[.int .u8 t193, .int .u8 t194, .string t195] 25 (0, 0))) ∧ Aside0 (wc.heap[gb202]? = some (.cells #[.int .u8 t198, .int .u8 t199, .string t200] 25 (0, 0))) ∧ Aside0 (Below w.heap.size w wc))
     case first =>
      have H := HC86.out
      clear HC86
      by_cases c87 : (a3.size : Int) > 1496
      ·rw [if_pos c87] at H
       have c87b0 : decide (1496 < (a3.size : Int)) = true := decide_eq_true c87
       have c87b1 : decide (1496 < a3.size) = true := decide_eq_true (by omega)
       clear c87
       (first | rw [c87b0] | (simp only [i64_w, i32_w]; rw [c87b0]) | skip)
       by_cases c88 : (!(t198 == 0) || (!(t199 == 0) || (!(t200.toList == ([] : List UInt8))))) = true
       ·rw [if_pos c88] at H
        have c88b0 : (!(t198 == 0) || (!(t199 == 0) || (!(t200.toList == ([] : List UInt8))))) = true := c88
        (try (have c88e_ : (!(t198 == 0) || (!(t199 == 0) || (!(t200.toList.isEmpty)))) = true := (by have z_ := c88b0; revert z_; cases t200.toList <;> exact id)))
        (try (have c88q_ : (t198 = 0 ∧ t199 = 0 ∧ t200.toList = ([] : List UInt8)) = False := eq_false (fun h_ => by have z_ := c88b0; simp [h_.1, h_.2.1, h_.2.2] at z_)))
        clear c88
        obtain rfl := Option.some.inj H
        have hnb89 := NB202_170.out
        have hnc89 := NB170_202.out
        have hnb90 := NB202_176.out
        have hnc90 := NB176_202.out
        have hnb91 := NB202_181.out
        have hnc91 := NB181_202.out
        have hnb92 := NB202_192.out
        have hnc92 := NB192_202.out
        have hnb93 := NB202_197.out
        have hnc93 := NB197_202.out
        have hcz94_0 : wc.cell? ⟨gb202, 0, none⟩ = some (.int .u8 t198) := (blk_cell BK202.out 0).trans rfl
        have hcz94_1 : wc.cell? ⟨gb202, 1, none⟩ = some (.int .u8 t199) := (blk_cell BK202.out 1).trans rfl
        have hcz94_2 : wc.cell? ⟨gb202, 2, none⟩ = some (.string t200) := (blk_cell BK202.out 2).trans rfl
        have hfz94_0 := blk_frozen BK202.out 0
        have hfz94_1 := blk_frozen BK202.out 1
        have hfz94_2 := blk_frozen BK202.out 2
        go_wp2
        go_ret
        exact ⟨by first | rfl | (simp <;> rfl) | (simp [*] <;> rfl), by repeat (first | (with_reducible first | exact HB.out | apply wA | apply wN | apply w1_ | refine wS ?_ (by assumption)) | exact HB.out)⟩
       ·rw [if_neg c88] at H
        have c88b0 : (!(t198 == 0) || (!(t199 == 0) || (!(t200.toList == ([] : List UInt8))))) = false := by simpa using c88
        (try (have c88e_ : (!(t198 == 0) || (!(t199 == 0) || (!(t200.toList.isEmpty)))) = false := (by have z_ := c88b0; revert z_; cases t200.toList <;> exact id)))
        (try (have c88q_ : t198 = 0 ∧ t199 = 0 ∧ t200.toList = ([] : List UInt8) := (by simpa using c88b0)))
        (try (have c88p0_ : (t198 = 0) = True := eq_true c88q_.1))
        (try (have c88p1_ : (t199 = 0) = True := eq_true c88q_.2.1))
        (try (have c88p2_ : (t200.toList = ([] : List UInt8)) = True := eq_true c88q_.2.2))
        (try clear c88q_)
        clear c88
        by_cases c95 : t201 = 5
        ·rw [if_pos c95] at H
         have c95b0 : (t201 == 5) = true := beq_iff_eq.mpr c95
         have c95b1 : (t201 != 5) = false := bne_eq_false_iff_eq.mpr c95
         clear c95
         have H' := mkA H
         clear H
         have hnb96 := NB202_170.out
         have hnc96 := NB170_202.out
         have hnb97 := NB202_176.out
         have hnc97 := NB176_202.out
         have hnb98 := NB202_181.out
         have hnc98 := NB181_202.out
         have hnb99 := NB202_192.out
         have hnc99 := NB192_202.out
         have hnb100 := NB202_197.out
         have hnc100 := NB197_202.out
         have hcz101_0 : wc.cell? ⟨gb202, 0, none⟩ = some (.int .u8 t198) := (blk_cell BK202.out 0).trans rfl
         have hcz101_1 : wc.cell? ⟨gb202, 1, none⟩ = some (.int .u8 t199) := (blk_cell BK202.out 1).trans rfl
         have hcz101_2 : wc.cell? ⟨gb202, 2, none⟩ = some (.string t200) := (blk_cell BK202.out 2).trans rfl
         have hfz101_0 := blk_frozen BK202.out 0
         have hfz101_1 := blk_frozen BK202.out 1
         have hfz101_2 := blk_frozen BK202.out 2
         go_wp2
         go_meet
         case rel => exact ⟨_, H', ⟨by have := HJ18.out; first | omega | exact Nat.le_refl _⟩, ⟨by (with_reducible repeat first | apply bN | apply bD | apply bA); exact BK170.out⟩, ⟨by (with_reducible repeat first | apply bN | apply bD | apply bA); exact BK176.out⟩, ⟨by (with_reducible repeat first | apply bN | apply bD | apply bA); exact BK181.out⟩, ⟨by (with_reducible repeat first | apply bN | apply bD | apply bA); exact BK192.out⟩, ⟨by (with_reducible repeat first | apply bN | apply bD | apply bA); exact BK197.out⟩, ⟨by (with_reducible repeat first | apply bN | apply bD | apply bA); exact BK202.out⟩, ⟨by repeat (first | (with_reducible first | exact HB.out | apply wA | apply wN | apply w1_ | refine wS ?_ (by assumption)) | exact HB.out)⟩⟩
        ·rw [if_neg c95] at H
         have c95b0 : (t201 == 5) = false := beq_eq_false_iff_ne.mpr c95
         have c95b1 : (t201 != 5) = true := bne_iff_ne.mpr c95
         obtain rfl := Option.some.inj H
         have hnb102 := NB202_170.out
         have hnc102 := NB170_202.out
         have hnb103 := NB202_176.out
         have hnc103 := NB176_202.out
         have hnb104 := NB202_181.out
         have hnc104 := NB181_202.out
         have hnb105 := NB202_192.out
         have hnc105 := NB192_202.out
         have hnb106 := NB202_197.out
         have hnc106 := NB197_202.out
         have hcz107_0 : wc.cell? ⟨gb202, 0, none⟩ = some (.int .u8 t198) := (blk_cell BK202.out 0).trans rfl
         have hcz107_1 : wc.cell? ⟨gb202, 1, none⟩ = some (.int .u8 t199) := (blk_cell BK202.out 1).trans rfl
         have hcz107_2 : wc.cell? ⟨gb202, 2, none⟩ = some (.string t200) := (blk_cell BK202.out 2).trans rfl
         have hfz107_0 := blk_frozen BK202.out 0
         have hfz107_1 := blk_frozen BK202.out 1
         have hfz107_2 := blk_frozen BK202.out 2
         go_wp2
         go_ret
         exact ⟨by first | rfl | (simp <;> rfl) | (simp [*] <;> rfl), by repeat (first | (with_reducible first | exact HB.out | apply wA | apply wN | apply w1_ | refine wS ?_ (by assumption)) | exact HB.out)⟩
      ·rw [if_neg c87] at H
       have c87b0 : decide (1496 < (a3.size : Int)) = false := decide_eq_false c87
       have c87b1 : decide (1496 < a3.size) = false := decide_eq_false (by omega)
       clear c87
       (first | rw [c87b0] | (simp only [i64_w, i32_w]; rw [c87b0]) | skip)
       by_cases c108 : (!(t198 == a5) || (!(t199 == a1_1) || (!(t200.toList == a3.toList)))) = true
       ·rw [if_pos c108] at H
        have c108b0 : (!(t198 == a5) || (!(t199 == a1_1) || (!(t200.toList == a3.toList)))) = true := c108
        (try (have c108q_ : (t198 = a5 ∧ t199 = a1_1 ∧ t200.toList = a3.toList) = False := eq_false (fun h_ => by have z_ := c108b0; simp [h_.1, h_.2.1, h_.2.2] at z_)))
        clear c108
        obtain rfl := Option.some.inj H
        have hnb109 := NB202_170.out
        have hnc109 := NB170_202.out
        have hnb110 := NB202_176.out
        have hnc110 := NB176_202.out
        have hnb111 := NB202_181.out
        have hnc111 := NB181_202.out
        have hnb112 := NB202_192.out
        have hnc112 := NB192_202.out
        have hnb113 := NB202_197.out
        have hnc113 := NB197_202.out
        have hcz114_0 : wc.cell? ⟨gb202, 0, none⟩ = some (.int .u8 t198) := (blk_cell BK202.out 0).trans rfl
        have hcz114_1 : wc.cell? ⟨gb202, 1, none⟩ = some (.int .u8 t199) := (blk_cell BK202.out 1).trans rfl
        have hcz114_2 : wc.cell? ⟨gb202, 2, none⟩ = some (.string t200) := (blk_cell BK202.out 2).trans rfl
        have hfz114_0 := blk_frozen BK202.out 0
        have hfz114_1 := blk_frozen BK202.out 1
        have hfz114_2 := blk_frozen BK202.out 2
        have hnb115 := NB170_176.out
        have hnc115 := NB176_170.out
        have hnb116 := NB170_181.out
        have hnc116 := NB181_170.out
        have hnb117 := NB170_192.out
        have hnc117 := NB192_170.out
        have hnb118 := NB170_197.out
        have hnc118 := NB197_170.out
        have hcz119_0 : wc.cell? ⟨gb170, 0, none⟩ = some (.int .u8 a1_0) := (blk_cell BK170.out 0).trans rfl
        have hcz119_1 : wc.cell? ⟨gb170, 1, none⟩ = some (.int .u8 a1_1) := (blk_cell BK170.out 1).trans rfl
        have hcz119_2 : wc.cell? ⟨gb170, 2, none⟩ = some (.string a1_2) := (blk_cell BK170.out 2).trans rfl
        have hfz119_0 := blk_frozen BK170.out 0
        have hfz119_1 := blk_frozen BK170.out 1
        have hfz119_2 := blk_frozen BK170.out 2
        go_wp2
        go_ret
        exact ⟨by first | rfl | (simp <;> rfl) | (simp [*] <;> rfl), by repeat (first | (with_reducible first | exact HB.out | apply wA | apply wN | apply w1_ | refine wS ?_ (by assumption)) | exact HB.out)⟩
       ·rw [if_neg c108] at H
        have c108b0 : (!(t198 == a5) || (!(t199 == a1_1) || (!(t200.toList == a3.toList)))) = false := by simpa using c108
        (try (have c108q_ : t198 = a5 ∧ t199 = a1_1 ∧ t200.toList = a3.toList := (by simpa using c108b0)))
        (try (have c108p0_ : (t198 = a5) = True := eq_true c108q_.1))
        (try (have c108p1_ : (t199 = a1_1) = True := eq_true c108q_.2.1))
        (try (have c108p2_ : (t200.toList = a3.toList) = True := eq_true c108q_.2.2))
        (try clear c108q_)
        clear c108
        by_cases c120 : t201 = 0
        ·rw [if_pos c120] at H
         have c120b0 : (t201 == 0) = true := beq_iff_eq.mpr c120
         have c120b1 : (t201 != 0) = false := bne_eq_false_iff_eq.mpr c120
         clear c120
         have H' := mkA H
         clear H
         have hnb121 := NB202_170.out
         have hnc121 := NB170_202.out
         have hnb122 := NB202_176.out
         have hnc122 := NB176_202.out
         have hnb123 := NB202_181.out
         have hnc123 := NB181_202.out
         have hnb124 := NB202_192.out
         have hnc124 := NB192_202.out
         have hnb125 := NB202_197.out
         have hnc125 := NB197_202.out
         have hcz126_0 : wc.cell? ⟨gb202, 0, none⟩ = some (.int .u8 t198) := (blk_cell BK202.out 0).trans rfl
         have hcz126_1 : wc.cell? ⟨gb202, 1, none⟩ = some (.int .u8 t199) := (blk_cell BK202.out 1).trans rfl
         have hcz126_2 : wc.cell? ⟨gb202, 2, none⟩ = some (.string t200) := (blk_cell BK202.out 2).trans rfl
         have hfz126_0 := blk_frozen BK202.out 0
         have hfz126_1 := blk_frozen BK202.out 1
         have hfz126_2 := blk_frozen BK202.out 2
         have hnb127 := NB170_176.out
         have hnc127 := NB176_170.out
         have hnb128 := NB170_181.out
         have hnc128 := NB181_170.out
         have hnb129 := NB170_192.out
         have hnc129 := NB192_170.out
         have hnb130 := NB170_197.out
         have hnc130 := NB197_170.out
         have hcz131_0 : wc.cell? ⟨gb170, 0, none⟩ = some (.int .u8 a1_0) := (blk_cell BK170.out 0).trans rfl
         have hcz131_1 : wc.cell? ⟨gb170, 1, none⟩ = some (.int .u8 a1_1) := (blk_cell BK170.out 1).trans rfl
         have hcz131_2 : wc.cell? ⟨gb170, 2, none⟩ = some (.string a1_2) := (blk_cell BK170.out 2).trans rfl
         have hfz131_0 := blk_frozen BK170.out 0
         have hfz131_1 := blk_frozen BK170.out 1
         have hfz131_2 := blk_frozen BK170.out 2
         go_wp2
         go_meet
         case rel => exact ⟨_, H', ⟨by have := HJ18.out; first | omega | exact Nat.le_refl _⟩, ⟨by (with_reducible repeat first | apply bN | apply bD | apply bA); exact BK170.out⟩, ⟨by (with_reducible repeat first | apply bN | apply bD | apply bA); exact BK176.out⟩, ⟨by (with_reducible repeat first | apply bN | apply bD | apply bA); exact BK181.out⟩, ⟨by (with_reducible repeat first | apply bN | apply bD | apply bA); exact BK192.out⟩, ⟨by (with_reducible repeat first | apply bN | apply bD | apply bA); exact BK197.out⟩, ⟨by (with_reducible repeat first | apply bN | apply bD | apply bA); exact BK202.out⟩, ⟨by repeat (first | (with_reducible first | exact HB.out | apply wA | apply wN | apply w1_ | refine wS ?_ (by assumption)) | exact HB.out)⟩⟩
        ·rw [if_neg c120] at H
         have c120b0 : (t201 == 0) = false := beq_eq_false_iff_ne.mpr c120
         have c120b1 : (t201 != 0) = true := bne_iff_ne.mpr c120
         obtain rfl := Option.some.inj H
         have hnb132 := NB202_170.out
         have hnc132 := NB170_202.out
         have hnb133 := NB202_176.out
         have hnc133 := NB176_202.out
         have hnb134 := NB202_181.out
         have hnc134 := NB181_202.out
         have hnb135 := NB202_192.out
         have hnc135 := NB192_202.out
         have hnb136 := NB202_197.out
         have hnc136 := NB197_202.out
         have hcz137_0 : wc.cell? ⟨gb202, 0, none⟩ = some (.int .u8 t198) := (blk_cell BK202.out 0).trans rfl
         have hcz137_1 : wc.cell? ⟨gb202, 1, none⟩ = some (.int .u8 t199) := (blk_cell BK202.out 1).trans rfl
         have hcz137_2 : wc.cell? ⟨gb202, 2, none⟩ = some (.string t200) := (blk_cell BK202.out 2).trans rfl
         have hfz137_0 := blk_frozen BK202.out 0
         have hfz137_1 := blk_frozen BK202.out 1
         have hfz137_2 := blk_frozen BK202.out 2
         have hnb138 := NB170_176.out
         have hnc138 := NB176_170.out
         have hnb139 := NB170_181.out
         have hnc139 := NB181_170.out
         have hnb140 := NB170_192.out
         have hnc140 := NB192_170.out
         have hnb141 := NB170_197.out
         have hnc141 := NB197_170.out
         have hcz142_0 : wc.cell? ⟨gb170, 0, none⟩ = some (.int .u8 a1_0) := (blk_cell BK170.out 0).trans rfl
         have hcz142_1 : wc.cell? ⟨gb170, 1, none⟩ = some (.int .u8 a1_1) := (blk_cell BK170.out 1).trans rfl
         have hcz142_2 : wc.cell? ⟨gb170, 2, none⟩ = some (.string a1_2) := (blk_cell BK170.out 2).trans rfl
         have hfz142_0 := blk_frozen BK170.out 0
         have hfz142_1 := blk_frozen BK170.out 1
         have hfz142_2 := blk_frozen BK170.out 2
         go_wp2
         go_ret
         exact ⟨by first | rfl | (simp <;> rfl) | (simp [*] <;> rfl), by repeat (first | (with_reducible first | exact HB.out | apply wA | apply wN | apply w1_ | refine wS ?_ (by assumption)) | exact HB.out)⟩
     case rest =>
      clear HC86
      try clear c1
      try clear c2
      try clear p2
      try clear c3
      try clear c4
      try clear c5
      try clear c6
      try clear p6
      try clear c7
      try clear c7b0
      try clear c8
      try clear c9
      try clear c10
      try clear c11
      try clear c12
      try clear c13
      try clear c14
      try clear c24
      try clear c28
      try clear c29
      try clear c33
      try clear c34
      try clear c35
      try clear c37
      try clear c38
      try clear c39
      try clear c40
      try clear c41
      try clear c45
      try clear c46
      try clear c47
      try clear c48
      try clear c53
      try clear c54
      try clear c55
      try clear c56
      try clear c57
      try clear c59
      try clear c59b0
      try clear c59b1
      try clear c60
      try clear c60b0
      try clear c60b1
      try clear c61
      try clear c61b0
      try clear c61b1
      try clear c62
      try clear c62b0
      try clear c63
      try clear c64
      try clear p64
      try clear c65
      try clear c66
      try clear c67
      try clear c69
      try clear c70
      try clear c71
      try clear c72
      try clear c74
      try clear c75
      try clear c76
      try clear c77
      try clear c78
      try clear c80
      try clear c81
      try clear c82
      try clear c83
      try clear c85
      try clear c87
      try clear c87b0
      try clear c87b1
      try clear c88
      try clear c88b0
      try clear c89
      try clear c90
      try clear c91
      try clear c92
      try clear c93
      try clear c95
      try clear c95b0
      try clear c95b1
      try clear c96
      try clear c97
      try clear c98
      try clear c99
      try clear c100
      try clear c102
      try clear c103
      try clear c104
      try clear c105
      try clear c106
      try clear c108
      try clear c108b0
      try clear c109
      try clear c110
      try clear c111
      try clear c112
      try clear c113
      try clear c115
      try clear c116
      try clear c117
      try clear c118
      try clear c120
      try clear c120b0
      try clear c120b1
      try clear c121
      try clear c122
      try clear c123
      try clear c124
      try clear c125
      try clear c127
      try clear c128
      try clear c129
      try clear c130
      try clear c132
      try clear c133
      try clear c134
      try clear c135
      try clear c136
      try clear c138
      try clear c139
      try clear c140
      try clear c141
      try clear hcz101_0
      try clear hcz101_1
      try clear hcz101_2
      try clear hcz107_0
      try clear hcz107_1
      try clear hcz107_2
      try clear hcz10_0
      try clear hcz10_1
      try clear hcz10_2
      try clear hcz114_0
      try clear hcz114_1
      try clear hcz114_2
      try clear hcz119_0
      try clear hcz119_1
      try clear hcz119_2
      try clear hcz126_0
      try clear hcz126_1
      try clear hcz126_2
      try clear hcz131_0
      try clear hcz131_1
      try clear hcz131_2
      try clear hcz137_0
      try clear hcz137_1
      try clear hcz137_2
      try clear hcz142_0
      try clear hcz142_1
      try clear hcz142_2
      try clear hcz21_0
      try clear hcz21_1
      try clear hcz21_2
      try clear hcz25_0
      try clear hcz25_1
      try clear hcz25_2
      try clear hcz30_0
      try clear hcz30_1
      try clear hcz30_2
      try clear hcz31_0
      try clear hcz31_1
      try clear hcz31_2
      try clear hcz33_0
      try clear hcz33_1
      try clear hcz33_2
      try clear hcz35_0
      try clear hcz35_1
      try clear hcz35_2
      try clear hcz41_0
      try clear hcz41_1
      try clear hcz41_2
      try clear hcz42_0
      try clear hcz42_1
      try clear hcz42_2
      try clear hcz49_0
      try clear hcz49_1
      try clear hcz49_2
      try clear hcz50_0
      try clear hcz50_1
      try clear hcz50_2
      try clear hcz58_0
      try clear hcz58_1
      try clear hcz58_2
      try clear hcz68_0
      try clear hcz68_1
      try clear hcz68_2
      try clear hcz73_0
      try clear hcz73_1
      try clear hcz73_2
      try clear hcz79_0
      try clear hcz79_1
      try clear hcz79_2
      try clear hcz84_0
      try clear hcz84_1
      try clear hcz84_2
      try clear hcz94_0
      try clear hcz94_1
      try clear hcz94_2
      try clear hfz101_0
      try clear hfz101_1
      try clear hfz101_2
      try clear hfz107_0
      try clear hfz107_1
      try clear hfz107_2
      try clear hfz10_0
      try clear hfz10_1
      try clear hfz10_2
      try clear hfz114_0
      try clear hfz114_1
      try clear hfz114_2
      try clear hfz119_0
      try clear hfz119_1
      try clear hfz119_2
      try clear hfz126_0
      try clear hfz126_1
      try clear hfz126_2
      try clear hfz131_0
      try clear hfz131_1
      try clear hfz131_2
      try clear hfz137_0
      try clear hfz137_1
      try clear hfz137_2
      try clear hfz142_0
      try clear hfz142_1
      try clear hfz142_2
      try clear hfz21_0
      try clear hfz21_1
      try clear hfz21_2
      try clear hfz25_0
      try clear hfz25_1
      try clear hfz25_2
      try clear hfz30_0
      try clear hfz30_1
      try clear hfz30_2
      try clear hfz31_0
      try clear hfz31_1
      try clear hfz31_2
      try clear hfz33_0
      try clear hfz33_1
      try clear hfz33_2
      try clear hfz35_0
      try clear hfz35_1
      try clear hfz35_2
      try clear hfz41_0
      try clear hfz41_1
      try clear hfz41_2
      try clear hfz42_0
      try clear hfz42_1
      try clear hfz42_2
      try clear hfz49_0
      try clear hfz49_1
      try clear hfz49_2
      try clear hfz50_0
      try clear hfz50_1
      try clear hfz50_2
      try clear hfz58_0
      try clear hfz58_1
      try clear hfz58_2
      try clear hfz68_0
      try clear hfz68_1
      try clear hfz68_2
      try clear hfz73_0
      try clear hfz73_1
      try clear hfz73_2
      try clear hfz79_0
      try clear hfz79_1
      try clear hfz79_2
      try clear hfz84_0
      try clear hfz84_1
      try clear hfz84_2
      try clear hfz94_0
      try clear hfz94_1
      try clear hfz94_2
      try clear p2
      try clear p6
      try clear p64
      obtain ⟨kq, HA, HJ85, BK170, BK176, BK181, BK192, BK197, BK202, HB⟩ := hcut
      cases kq with
      | zero => exact absurd HA.out (by simp [halyardlaw11_RejectTells.j1])
      | succ kj85 =>
       have H := HA.out
       clear HA
       simp only [halyardlaw11_RejectTells.j1] at H
       replace H := Option.bind_eq_some_iff.mp H
       obtain ⟨t203, A1430, H⟩ := H
       replace H : (if t203 = true then ((halyardref11_Code.f a0 a1_0 a1_1 a1_2 a4).bind fun bt204 => (if (t172 == bt204.1 && (t173 == bt204.2.1 && (t174.toList == bt204.2.2.1.toList))) = true then (if t175 = bt204.2.2.2 then ((halyardref11_Proto.f a0 a2 a3 a4).bind fun bt209 => (if (t177 == bt209.1 && (t178 == bt209.2.1 && (t179.toList == bt209.2.2.toList))) = true then (if t180 = 0 then ((halyardlaw11_alive.f).bind fun t212 => (some t212)) else (some false)) else (some false))) else (some false)) else (some false))) else (if (t172 == 0 && (t173 == 0 && (t174.toList == ([] : List UInt8)))) = true then (if (t177 == 0 && (t178 == 0 && (t179.toList == ([] : List UInt8)))) = true then (if t175 = 2 then (if t180 = 2 then ((halyardlaw11_alive.f).bind fun t213 => (some t213)) else (some false)) else (some false)) else (some false)) else (some false))) = some r := H
       have A143 := mkA A1430
       clear A1430
       by_cases c144 : t203 = true
       ·subst c144
        have H1 : ((halyardref11_Code.f a0 a1_0 a1_1 a1_2 a4).bind fun bt204 => (if (t172 == bt204.1 && (t173 == bt204.2.1 && (t174.toList == bt204.2.2.1.toList))) = true then (if t175 = bt204.2.2.2 then ((halyardref11_Proto.f a0 a2 a3 a4).bind fun bt209 => (if (t177 == bt209.1 && (t178 == bt209.2.1 && (t179.toList == bt209.2.2.toList))) = true then (if t180 = 0 then ((halyardlaw11_alive.f).bind fun t212 => (some t212)) else (some false)) else (some false))) else (some false)) else (some false))) = some r := by rw [if_pos rfl] at H; exact H
        clear H
        have H := H1
        clear H1
        replace H := Option.bind_eq_some_iff.mp H
        obtain ⟨⟨t204, t205, t206, t207⟩, A1450, H⟩ := H
        replace H : (if (t172 == t204 && (t173 == t205 && (t174.toList == t206.toList))) = true then (if t175 = t207 then ((halyardref11_Proto.f a0 a2 a3 a4).bind fun bt209 => (if (t177 == bt209.1 && (t178 == bt209.2.1 && (t179.toList == bt209.2.2.toList))) = true then (if t180 = 0 then ((halyardlaw11_alive.f).bind fun t212 => (some t212)) else (some false)) else (some false))) else (some false)) else (some false)) = some r := H
        have A145 := mkA A1450
        clear A1450
        by_cases c146 : (t172 == t204 && (t173 == t205 && (t174.toList == t206.toList))) = true
        ·rw [if_pos c146] at H
         have c146b0 : (t172 == t204 && (t173 == t205 && (t174.toList == t206.toList))) = true := c146
         (try (have c146q_ : t172 = t204 ∧ t173 = t205 ∧ t174.toList = t206.toList := (by simpa using c146b0)))
         (try (have c146p0_ : (t172 = t204) = True := eq_true c146q_.1))
         (try (have c146p1_ : (t173 = t205) = True := eq_true c146q_.2.1))
         (try (have c146p2_ : (t174.toList = t206.toList) = True := eq_true c146q_.2.2))
         (try clear c146q_)
         clear c146
         by_cases c147 : t175 = t207
         ·rw [if_pos c147] at H
          have c147b0 : (t175 == t207) = true := beq_iff_eq.mpr c147
          have c147b1 : (t175 != t207) = false := bne_eq_false_iff_eq.mpr c147
          clear c147
          replace H := Option.bind_eq_some_iff.mp H
          obtain ⟨⟨t209, t210, t211⟩, A1480, H⟩ := H
          replace H : (if (t177 == t209 && (t178 == t210 && (t179.toList == t211.toList))) = true then (if t180 = 0 then ((halyardlaw11_alive.f).bind fun t212 => (some t212)) else (some false)) else (some false)) = some r := H
          have A148 := mkA A1480
          clear A1480
          by_cases c149 : (t177 == t209 && (t178 == t210 && (t179.toList == t211.toList))) = true
          ·rw [if_pos c149] at H
           have c149b0 : (t177 == t209 && (t178 == t210 && (t179.toList == t211.toList))) = true := c149
           (try (have c149q_ : t177 = t209 ∧ t178 = t210 ∧ t179.toList = t211.toList := (by simpa using c149b0)))
           (try (have c149p0_ : (t177 = t209) = True := eq_true c149q_.1))
           (try (have c149p1_ : (t178 = t210) = True := eq_true c149q_.2.1))
           (try (have c149p2_ : (t179.toList = t211.toList) = True := eq_true c149q_.2.2))
           (try clear c149q_)
           clear c149
           by_cases c150 : t180 = 0
           ·rw [if_pos c150] at H
            have c150b0 : (t180 == 0) = true := beq_iff_eq.mpr c150
            have c150b1 : (t180 != 0) = false := bne_eq_false_iff_eq.mpr c150
            clear c150
            replace H := Option.bind_eq_some_iff.mp H
            obtain ⟨t212, A1510, H⟩ := H
            replace H : (some t212) = some r := H
            have A151 := mkA A1510
            clear A1510
            obtain rfl := Option.some.inj H
            try go_wp2_with (first | ((with_reducible refine gate_callee (f := 42) rfl ?_); refine goesL_ (some 128) rfl rfl Try.func42 (by kernel_rfl) rfl #[.int .i64 a4] rfl (by (try simp only [List.map_toArray, List.map_cons, List.map_nil]); first | done | rfl | (simp only [List.length_drop, List.length_take]; rfl)) ?_; (with_reducible refine (halyardref11_May.calls a4 true _ A143.out).mono ?_); rintro e w' ⟨rfl, ⟨nd, rfl⟩⟩; refine ⟨_, rfl, ?_⟩; (try (rw [drewN_self wc]; generalize hq_ : World.drewN wc _ = wc; have n0_ : Aside0 (wc.heap[gb170]? = some (.cells #[.int .u8 a1_0, .int .u8 a1_1, .string a1_2] 25 (0, 0))) := ⟨by rw [← hq_]; exact (by (with_reducible repeat first | apply bN | apply bD | apply bA); exact BK170.out)⟩; have n1_ : Aside0 (wc.heap[gb176]? = some (.cells #[.int .u8 t172, .int .u8 t173, .string t174] 25 (0, 0))) := ⟨by rw [← hq_]; exact (by (with_reducible repeat first | apply bN | apply bD | apply bA); exact BK176.out)⟩; have n2_ : Aside0 (wc.heap[gb181]? = some (.cells #[.int .u8 t177, .int .u8 t178, .string t179] 25 (0, 0))) := ⟨by rw [← hq_]; exact (by (with_reducible repeat first | apply bN | apply bD | apply bA); exact BK181.out)⟩; have n3_ : Aside0 (wc.heap[gb192]? = some (.cells #[.int .u8 t188, .int .u8 t189, .string t190] 25 (0, 0))) := ⟨by rw [← hq_]; exact (by (with_reducible repeat first | apply bN | apply bD | apply bA); exact BK192.out)⟩; have n4_ : Aside0 (wc.heap[gb197]? = some (.cells #[.int .u8 t193, .int .u8 t194, .string t195] 25 (0, 0))) := ⟨by rw [← hq_]; exact (by (with_reducible repeat first | apply bN | apply bD | apply bA); exact BK197.out)⟩; have n5_ : Aside0 (wc.heap[gb202]? = some (.cells #[.int .u8 t198, .int .u8 t199, .string t200] 25 (0, 0))) := ⟨by rw [← hq_]; exact (by (with_reducible repeat first | apply bN | apply bD | apply bA); exact BK202.out)⟩; have n6_ : Aside0 (Below w.heap.size w wc) := ⟨by rw [← hq_]; exact (by repeat (first | (with_reducible first | exact HB.out | apply wA | apply wN | apply w1_ | refine wS ?_ (by assumption)) | exact HB.out))⟩; clear BK170 BK176 BK181 BK192 BK197 BK202 HB hq_; have BK170 := n0_; have BK176 := n1_; have BK181 := n2_; have BK192 := n3_; have BK197 := n4_; have BK202 := n5_; have HB := n6_; clear n0_ n1_ n2_ n3_ n4_ n5_ n6_)); have hnb152 := NB170_176.out; have hnc152 := NB176_170.out; have hnb153 := NB170_181.out; have hnc153 := NB181_170.out; have hnb154 := NB170_192.out; have hnc154 := NB192_170.out; have hnb155 := NB170_197.out; have hnc155 := NB197_170.out; have hnb156 := NB170_202.out; have hnc156 := NB202_170.out; have hcz157_0 : wc.cell? ⟨gb170, 0, none⟩ = some (.int .u8 a1_0) := (blk_cell BK170.out 0).trans rfl; have hcz157_1 : wc.cell? ⟨gb170, 1, none⟩ = some (.int .u8 a1_1) := (blk_cell BK170.out 1).trans rfl; have hcz157_2 : wc.cell? ⟨gb170, 2, none⟩ = some (.string a1_2) := (blk_cell BK170.out 2).trans rfl; have hfz157_0 := blk_frozen BK170.out 0; have hfz157_1 := blk_frozen BK170.out 1; have hfz157_2 := blk_frozen BK170.out 2) | ((with_reducible refine gate_callee (f := 43) rfl ?_); refine goesL_ (some 153) rfl rfl Try.func43 (by kernel_rfl) rfl #[.int .u8 a0, .agg #[.int .u8 a1_0, .int .u8 a1_1, .string a1_2], .int .i64 a4] rfl (by (try simp only [List.map_toArray, List.map_cons, List.map_nil]); first | done | rfl | (simp only [List.length_drop, List.length_take]; rfl)) ?_; (with_reducible refine (halyardref11_Code.calls a0 a1_0 a1_1 a1_2 a4 t204 t205 t206 t207 _ A145.out).mono ?_); rintro e w158 ⟨rfl, hb⟩; refine ⟨_, rfl, ?_⟩; have n0_ := nB (by (with_reducible repeat first | apply bN | apply bD | apply bA); exact BK170.out) hb; have n1_ := nB (by (with_reducible repeat first | apply bN | apply bD | apply bA); exact BK176.out) hb; have n2_ := nB (by (with_reducible repeat first | apply bN | apply bD | apply bA); exact BK181.out) hb; have n3_ := nB (by (with_reducible repeat first | apply bN | apply bD | apply bA); exact BK192.out) hb; have n4_ := nB (by (with_reducible repeat first | apply bN | apply bD | apply bA); exact BK197.out) hb; have n5_ := nB (by (with_reducible repeat first | apply bN | apply bD | apply bA); exact BK202.out) hb; have n6_ := mkA (below_step (by repeat (first | (with_reducible first | exact HB.out | apply wA | apply wN | apply w1_ | refine wS ?_ (by assumption)) | exact HB.out)) hb); clear BK170; clear BK176; clear BK181; clear BK192; clear BK197; clear BK202; clear HB; have BK170 := n0_; have BK176 := n1_; have BK181 := n2_; have BK192 := n3_; have BK197 := n4_; have BK202 := n5_; have HB := n6_; clear n0_ n1_ n2_ n3_ n4_ n5_ n6_; (try clear hb); (try clear hb2); (try clear hk); (try clear hi)) | ((with_reducible refine gate_dst (N := 29) rfl ?_); refine box_event ?hg (N := 29) ?hd (cs := #[.int .u8 0, .int .u8 0, .string (⟨#[]⟩ : ByteArray)]) (t := 25) ?hr ?_; (case hd => rfl); (case hg => rfl); (case hr => first | (go_simp; done) | (go_simp; rfl)); intro gb208 hg w159 hbox hb; have n0_ := nB (by (with_reducible repeat first | apply bN | apply bD | apply bA); exact BK170.out) hb; have n1_ := nB (by (with_reducible repeat first | apply bN | apply bD | apply bA); exact BK176.out) hb; have n2_ := nB (by (with_reducible repeat first | apply bN | apply bD | apply bA); exact BK181.out) hb; have n3_ := nB (by (with_reducible repeat first | apply bN | apply bD | apply bA); exact BK192.out) hb; have n4_ := nB (by (with_reducible repeat first | apply bN | apply bD | apply bA); exact BK197.out) hb; have n5_ := nB (by (with_reducible repeat first | apply bN | apply bD | apply bA); exact BK202.out) hb; have n6_ := mkA (below_step (by repeat (first | (with_reducible first | exact HB.out | apply wA | apply wN | apply w1_ | refine wS ?_ (by assumption)) | exact HB.out)) hb); have n7_ := mkA (hbox); have n8_ := mkA ((by rw [hg]; exact (below_size (by repeat (first | (with_reducible first | exact HB.out | apply wA | apply wN | apply w1_ | refine wS ?_ (by assumption)) | exact HB.out))) : w.heap.size ≤ gb208)); have n9_ := mkA ((by rw [hg]; exact (below_size (by repeat (first | (with_reducible first | exact HB.out | apply wA | apply wN | apply w1_ | refine wS ?_ (by assumption)) | exact HB.out))) : w.heap.size ≤ gb208)); have n10_ := mkA ((by rw [hg]; exact Nat.ne_of_lt (blk_lt (g := gb170) (o := .cells #[.int .u8 a1_0, .int .u8 a1_1, .string a1_2] 25 (0, 0)) (by (with_reducible repeat first | apply bN | apply bD | apply bA); exact BK170.out)) : gb170 ≠ gb208)); have n11_ := mkA ((by rw [hg]; exact Nat.ne_of_gt (blk_lt (g := gb170) (o := .cells #[.int .u8 a1_0, .int .u8 a1_1, .string a1_2] 25 (0, 0)) (by (with_reducible repeat first | apply bN | apply bD | apply bA); exact BK170.out)) : gb208 ≠ gb170)); have n12_ := mkA ((by rw [hg]; exact Nat.ne_of_lt (blk_lt (g := gb176) (o := .cells #[.int .u8 t172, .int .u8 t173, .string t174] 25 (0, 0)) (by (with_reducible repeat first | apply bN | apply bD | apply bA); exact BK176.out)) : gb176 ≠ gb208)); have n13_ := mkA ((by rw [hg]; exact Nat.ne_of_gt (blk_lt (g := gb176) (o := .cells #[.int .u8 t172, .int .u8 t173, .string t174] 25 (0, 0)) (by (with_reducible repeat first | apply bN | apply bD | apply bA); exact BK176.out)) : gb208 ≠ gb176)); have n14_ := mkA ((by rw [hg]; exact Nat.ne_of_lt (blk_lt (g := gb181) (o := .cells #[.int .u8 t177, .int .u8 t178, .string t179] 25 (0, 0)) (by (with_reducible repeat first | apply bN | apply bD | apply bA); exact BK181.out)) : gb181 ≠ gb208)); have n15_ := mkA ((by rw [hg]; exact Nat.ne_of_gt (blk_lt (g := gb181) (o := .cells #[.int .u8 t177, .int .u8 t178, .string t179] 25 (0, 0)) (by (with_reducible repeat first | apply bN | apply bD | apply bA); exact BK181.out)) : gb208 ≠ gb181)); have n16_ := mkA ((by rw [hg]; exact Nat.ne_of_lt (blk_lt (g := gb192) (o := .cells #[.int .u8 t188, .int .u8 t189, .string t190] 25 (0, 0)) (by (with_reducible repeat first | apply bN | apply bD | apply bA); exact BK192.out)) : gb192 ≠ gb208)); have n17_ := mkA ((by rw [hg]; exact Nat.ne_of_gt (blk_lt (g := gb192) (o := .cells #[.int .u8 t188, .int .u8 t189, .string t190] 25 (0, 0)) (by (with_reducible repeat first | apply bN | apply bD | apply bA); exact BK192.out)) : gb208 ≠ gb192)); have n18_ := mkA ((by rw [hg]; exact Nat.ne_of_lt (blk_lt (g := gb197) (o := .cells #[.int .u8 t193, .int .u8 t194, .string t195] 25 (0, 0)) (by (with_reducible repeat first | apply bN | apply bD | apply bA); exact BK197.out)) : gb197 ≠ gb208)); have n19_ := mkA ((by rw [hg]; exact Nat.ne_of_gt (blk_lt (g := gb197) (o := .cells #[.int .u8 t193, .int .u8 t194, .string t195] 25 (0, 0)) (by (with_reducible repeat first | apply bN | apply bD | apply bA); exact BK197.out)) : gb208 ≠ gb197)); have n20_ := mkA ((by rw [hg]; exact Nat.ne_of_lt (blk_lt (g := gb202) (o := .cells #[.int .u8 t198, .int .u8 t199, .string t200] 25 (0, 0)) (by (with_reducible repeat first | apply bN | apply bD | apply bA); exact BK202.out)) : gb202 ≠ gb208)); have n21_ := mkA ((by rw [hg]; exact Nat.ne_of_gt (blk_lt (g := gb202) (o := .cells #[.int .u8 t198, .int .u8 t199, .string t200] 25 (0, 0)) (by (with_reducible repeat first | apply bN | apply bD | apply bA); exact BK202.out)) : gb208 ≠ gb202)); clear BK170; clear BK176; clear BK181; clear BK192; clear BK197; clear BK202; clear HB; have BK170 := n0_; have BK176 := n1_; have BK181 := n2_; have BK192 := n3_; have BK197 := n4_; have BK202 := n5_; have HB := n6_; have BK208 := n7_; have GW208 := n8_; have GE208 := n9_; have NB170_208 := n10_; have NB208_170 := n11_; have NB176_208 := n12_; have NB208_176 := n13_; have NB181_208 := n14_; have NB208_181 := n15_; have NB192_208 := n16_; have NB208_192 := n17_; have NB197_208 := n18_; have NB208_197 := n19_; have NB202_208 := n20_; have NB208_202 := n21_; clear n0_ n1_ n2_ n3_ n4_ n5_ n6_ n7_ n8_ n9_ n10_ n11_ n12_ n13_ n14_ n15_ n16_ n17_ n18_ n19_ n20_ n21_; clear hb hbox hg; have hnb160 := NB208_170.out; have hnc160 := NB170_208.out; have hnb161 := NB208_176.out; have hnc161 := NB176_208.out; have hnb162 := NB208_181.out; have hnc162 := NB181_208.out; have hnb163 := NB208_192.out; have hnc163 := NB192_208.out; have hnb164 := NB208_197.out; have hnc164 := NB197_208.out; have hnb165 := NB208_202.out; have hnc165 := NB202_208.out; have hcz166_0 : w159.cell? ⟨gb208, 0, none⟩ = some (.int .u8 0) := (blk_cell BK208.out 0).trans rfl; have hcz166_1 : w159.cell? ⟨gb208, 1, none⟩ = some (.int .u8 0) := (blk_cell BK208.out 1).trans rfl; have hcz166_2 : w159.cell? ⟨gb208, 2, none⟩ = some (.string (⟨#[]⟩ : ByteArray)) := (blk_cell BK208.out 2).trans rfl; have hfz166_0 := blk_frozen BK208.out 0; have hfz166_1 := blk_frozen BK208.out 1; have hfz166_2 := blk_frozen BK208.out 2))
            have n0_ : Aside0 ((((w159.setCell ⟨gb208, 0, none⟩ (.int .u8 t204)).setCell ⟨gb208, 1, none⟩ (.int .u8 t205)).setCell ⟨gb208, 2, none⟩ (.string t206)).heap[gb170]? = some (.cells #[.int .u8 a1_0, .int .u8 a1_1, .string a1_2] 25 (0, 0))) := ⟨by (with_reducible repeat first | apply bN | apply bD | apply bA); refine blk_far ?_ NB170_208.out _; (with_reducible repeat first | apply bN | apply bD | apply bA); refine blk_far ?_ NB170_208.out _; (with_reducible repeat first | apply bN | apply bD | apply bA); refine blk_far ?_ NB170_208.out _; (with_reducible repeat first | apply bN | apply bD | apply bA); exact BK170.out⟩
            have n1_ : Aside0 ((((w159.setCell ⟨gb208, 0, none⟩ (.int .u8 t204)).setCell ⟨gb208, 1, none⟩ (.int .u8 t205)).setCell ⟨gb208, 2, none⟩ (.string t206)).heap[gb176]? = some (.cells #[.int .u8 t172, .int .u8 t173, .string t174] 25 (0, 0))) := ⟨by (with_reducible repeat first | apply bN | apply bD | apply bA); refine blk_far ?_ NB176_208.out _; (with_reducible repeat first | apply bN | apply bD | apply bA); refine blk_far ?_ NB176_208.out _; (with_reducible repeat first | apply bN | apply bD | apply bA); refine blk_far ?_ NB176_208.out _; (with_reducible repeat first | apply bN | apply bD | apply bA); exact BK176.out⟩
            have n2_ : Aside0 ((((w159.setCell ⟨gb208, 0, none⟩ (.int .u8 t204)).setCell ⟨gb208, 1, none⟩ (.int .u8 t205)).setCell ⟨gb208, 2, none⟩ (.string t206)).heap[gb181]? = some (.cells #[.int .u8 t177, .int .u8 t178, .string t179] 25 (0, 0))) := ⟨by (with_reducible repeat first | apply bN | apply bD | apply bA); refine blk_far ?_ NB181_208.out _; (with_reducible repeat first | apply bN | apply bD | apply bA); refine blk_far ?_ NB181_208.out _; (with_reducible repeat first | apply bN | apply bD | apply bA); refine blk_far ?_ NB181_208.out _; (with_reducible repeat first | apply bN | apply bD | apply bA); exact BK181.out⟩
            have n3_ : Aside0 ((((w159.setCell ⟨gb208, 0, none⟩ (.int .u8 t204)).setCell ⟨gb208, 1, none⟩ (.int .u8 t205)).setCell ⟨gb208, 2, none⟩ (.string t206)).heap[gb192]? = some (.cells #[.int .u8 t188, .int .u8 t189, .string t190] 25 (0, 0))) := ⟨by (with_reducible repeat first | apply bN | apply bD | apply bA); refine blk_far ?_ NB192_208.out _; (with_reducible repeat first | apply bN | apply bD | apply bA); refine blk_far ?_ NB192_208.out _; (with_reducible repeat first | apply bN | apply bD | apply bA); refine blk_far ?_ NB192_208.out _; (with_reducible repeat first | apply bN | apply bD | apply bA); exact BK192.out⟩
            have n4_ : Aside0 ((((w159.setCell ⟨gb208, 0, none⟩ (.int .u8 t204)).setCell ⟨gb208, 1, none⟩ (.int .u8 t205)).setCell ⟨gb208, 2, none⟩ (.string t206)).heap[gb197]? = some (.cells #[.int .u8 t193, .int .u8 t194, .string t195] 25 (0, 0))) := ⟨by (with_reducible repeat first | apply bN | apply bD | apply bA); refine blk_far ?_ NB197_208.out _; (with_reducible repeat first | apply bN | apply bD | apply bA); refine blk_far ?_ NB197_208.out _; (with_reducible repeat first | apply bN | apply bD | apply bA); refine blk_far ?_ NB197_208.out _; (with_reducible repeat first | apply bN | apply bD | apply bA); exact BK197.out⟩
            have n5_ : Aside0 ((((w159.setCell ⟨gb208, 0, none⟩ (.int .u8 t204)).setCell ⟨gb208, 1, none⟩ (.int .u8 t205)).setCell ⟨gb208, 2, none⟩ (.string t206)).heap[gb202]? = some (.cells #[.int .u8 t198, .int .u8 t199, .string t200] 25 (0, 0))) := ⟨by (with_reducible repeat first | apply bN | apply bD | apply bA); refine blk_far ?_ NB202_208.out _; (with_reducible repeat first | apply bN | apply bD | apply bA); refine blk_far ?_ NB202_208.out _; (with_reducible repeat first | apply bN | apply bD | apply bA); refine blk_far ?_ NB202_208.out _; (with_reducible repeat first | apply bN | apply bD | apply bA); exact BK202.out⟩
            have n6_ : Aside0 ((((w159.setCell ⟨gb208, 0, none⟩ (.int .u8 t204)).setCell ⟨gb208, 1, none⟩ (.int .u8 t205)).setCell ⟨gb208, 2, none⟩ (.string t206)).heap[gb208]? = some (.cells #[.int .u8 t204, .int .u8 t205, .string t206] 25 (0, 0))) := ⟨by (with_reducible repeat first | apply bN | apply bD | apply bA); refine blk_put (cs := #[.int .u8 t204, .int .u8 t205, .string (⟨#[]⟩ : ByteArray)]) ?_ 2 _ rfl; (with_reducible repeat first | apply bN | apply bD | apply bA); refine blk_put (cs := #[.int .u8 t204, .int .u8 0, .string (⟨#[]⟩ : ByteArray)]) ?_ 1 _ rfl; (with_reducible repeat first | apply bN | apply bD | apply bA); refine blk_put (cs := #[.int .u8 0, .int .u8 0, .string (⟨#[]⟩ : ByteArray)]) ?_ 0 _ rfl; (with_reducible repeat first | apply bN | apply bD | apply bA); exact BK208.out⟩
            have n7_ : Aside0 (Below w.heap.size w (((w159.setCell ⟨gb208, 0, none⟩ (.int .u8 t204)).setCell ⟨gb208, 1, none⟩ (.int .u8 t205)).setCell ⟨gb208, 2, none⟩ (.string t206))) := ⟨by repeat (first | (with_reducible first | exact HB.out | apply wA | apply wN | apply w1_ | refine wS ?_ (by assumption)) | exact HB.out)⟩
            (try clear BK170)
            (try clear BK176)
            (try clear BK181)
            (try clear BK192)
            (try clear BK197)
            (try clear BK202)
            (try clear BK208)
            (try clear HB)
            generalize (((w159.setCell ⟨gb208, 0, none⟩ (.int .u8 t204)).setCell ⟨gb208, 1, none⟩ (.int .u8 t205)).setCell ⟨gb208, 2, none⟩ (.string t206)) = w167 at n0_ n1_ n2_ n3_ n4_ n5_ n6_ n7_ ⊢
            have BK170 := n0_
            have BK176 := n1_
            have BK181 := n2_
            have BK192 := n3_
            have BK197 := n4_
            have BK202 := n5_
            have BK208 := n6_
            have HB := n7_
            clear n0_ n1_ n2_ n3_ n4_ n5_ n6_ n7_
            have n0_ := mkA (blk_drew BK170.out)
            have n1_ := mkA (blk_drew BK176.out)
            have n2_ := mkA (blk_drew BK181.out)
            have n3_ := mkA (blk_drew BK192.out)
            have n4_ := mkA (blk_drew BK197.out)
            have n5_ := mkA (blk_drew BK202.out)
            have n6_ := mkA (blk_drew BK208.out)
            have n7_ := mkA (below_drew1 HB.out)
            clear BK170
            clear BK176
            clear BK181
            clear BK192
            clear BK197
            clear BK202
            clear BK208
            clear HB
            have BK170 := n0_
            have BK176 := n1_
            have BK181 := n2_
            have BK192 := n3_
            have BK197 := n4_
            have BK202 := n5_
            have BK208 := n6_
            have HB := n7_
            clear n0_ n1_ n2_ n3_ n4_ n5_ n6_ n7_
            refine start_ (n := 25) (S := fun w' => w'.cell? ⟨gb176, 0, none⟩ = some (.int .u8 t172) ∧ w'.cell? ⟨gb176, 1, none⟩ = some (.int .u8 t173) ∧ w'.cell? ⟨gb176, 2, none⟩ = some (.string t174) ∧ w'.cell? ⟨gb208, 0, none⟩ = some (.int .u8 t204) ∧ w'.cell? ⟨gb208, 1, none⟩ = some (.int .u8 t205) ∧ w'.cell? ⟨gb208, 2, none⟩ = some (.string t206) ∧ w'.cell? ⟨gb181, 0, none⟩ = some (.int .u8 t177) ∧ w'.cell? ⟨gb181, 1, none⟩ = some (.int .u8 t178) ∧ w'.cell? ⟨gb181, 2, none⟩ = some (.string t179)) (ds := []) #[false, false, false, false, false, false, false, false, false, false, false, false, false, false, false, false, false, false, false, false, false, false, false, false, false] (by kernel_rfl) rfl rfl ⟨(blk_cell BK176.out 0).trans rfl, (blk_cell BK176.out 1).trans rfl, (blk_cell BK176.out 2).trans rfl, (blk_cell BK208.out 0).trans rfl, (blk_cell BK208.out 1).trans rfl, (blk_cell BK208.out 2).trans rfl, (blk_cell BK181.out 0).trans rfl, (blk_cell BK181.out 1).trans rfl, (blk_cell BK181.out 2).trans rfl⟩ (fun hHeld => ?_); refine with_tabW halyardlaw11_RejectTells.tab20 halyardlaw11_RejectTells.bits20 (fun HT_ HW_ => ?_)
            generalize w167.drew = w168 at BK170 BK176 BK181 BK192 BK197 BK202 BK208 HB hHeld ⊢
            refine take_ (i := 0) (N := some 156) (v := ?_) (a' := ?_) #[true, false, false, false, false, false, false, false, false, false, false, false, false, false, false, false, false, false, false, false, false, false, false, false, false] rfl rfl (take_ofW HT_.out HW_.out (by kernel_rfl)) (fun _ _ _ h => h) (Or.inl ⟨by rfl, ?_⟩) hHeld ?_ ?_
            rotate_left
            ·rintro w' ⟨s0, s1, s2, s3, s4, s5, s6, s7, s8⟩
             go_simp
             with_reducible rfl
            rotate_left
            ·simp only [Act.put, sA, sB, sC, i64_w, i32_w]
             rfl
            refine take_ (i := 1) (N := some 157) (v := ?_) (a' := ?_) #[true, true, false, false, false, false, false, false, false, false, false, false, false, false, false, false, false, false, false, false, false, false, false, false, false] rfl rfl (take_ofW HT_.out HW_.out (by kernel_rfl)) (fun _ _ _ h => h) (Or.inl ⟨by rfl, ?_⟩) hHeld ?_ ?_
            rotate_left
            ·rintro w' ⟨s0, s1, s2, s3, s4, s5, s6, s7, s8⟩
             go_simp
             with_reducible rfl
            rotate_left
            ·simp only [Act.put, sA, sB, sC, i64_w, i32_w]
             rfl
            refine pure_ (i := 2) (N := some 158) (v := ?_) (a' := ?_) #[true, true, true, false, false, false, false, false, false, false, false, false, false, false, false, false, false, false, false, false, false, false, false, false, false] rfl rfl (any_of HT_.out (by kernel_rfl)) (fun _ _ _ h => h) (Or.inl ⟨by rfl, ?_⟩) ?_ ?_
            rotate_left
            ·intro w'
             go_simp
             with_reducible rfl
            rotate_left
            ·simp only [Act.put, sA, sB, sC, i64_w, i32_w]
             rfl
            refine pure_ (i := 3) (N := some 159) (v := ?_) (a' := ?_) #[true, true, true, true, false, false, false, false, false, false, false, false, false, false, false, false, false, false, false, false, false, false, false, false, false] rfl rfl (any_of HT_.out (by kernel_rfl)) (fun _ _ _ h => h) (Or.inl ⟨by rfl, ?_⟩) ?_ ?_
            rotate_left
            ·intro w'
             go_simp
             with_reducible rfl
            rotate_left
            ·simp only [Act.put, sA, sB, sC, i64_w, i32_w]
             rfl
            refine pure_ (i := 4) (N := some 160) (v := ?_) (a' := ?_) #[true, true, true, true, true, false, false, false, false, false, false, false, false, false, false, false, false, false, false, false, false, false, false, false, false] rfl rfl (any_of HT_.out (by kernel_rfl)) (fun _ _ _ h => h) (Or.inl ⟨by rfl, ?_⟩) ?_ ?_
            rotate_left
            ·intro w'
             go_simp
             with_reducible rfl
            rotate_left
            ·simp only [Act.put, sA, sB, sC, i64_w, i32_w]
             rfl
            refine pure_ (i := 5) (N := some 161) (v := ?_) (a' := ?_) #[true, true, true, true, true, true, false, false, false, false, false, false, false, false, false, false, false, false, false, false, false, false, false, false, false] rfl rfl (any_of HT_.out (by kernel_rfl)) (fun _ _ _ h => h) (Or.inl ⟨by rfl, ?_⟩) ?_ ?_
            rotate_left
            ·intro w'
             go_simp
             with_reducible rfl
            rotate_left
            ·simp only [Act.put, sA, sB, sC, i64_w, i32_w]
             rfl
            refine pure_ (i := 6) (N := some 162) (v := ?_) (a' := ?_) #[true, true, true, true, true, true, true, false, false, false, false, false, false, false, false, false, false, false, false, false, false, false, false, false, false] rfl rfl (any_of HT_.out (by kernel_rfl)) (fun _ _ _ h => h) (Or.inl ⟨by rfl, ?_⟩) ?_ ?_
            rotate_left
            ·intro w'
             go_simp
             with_reducible rfl
            rotate_left
            ·simp only [Act.put, sA, sB, sC, i64_w, i32_w]
             rfl
            refine pure_ (i := 7) (N := some 163) (v := ?_) (a' := ?_) #[true, true, true, true, true, true, true, true, false, false, false, false, false, false, false, false, false, false, false, false, false, false, false, false, false] rfl rfl (any_of HT_.out (by kernel_rfl)) (fun _ _ _ h => h) (Or.inl ⟨by rfl, ?_⟩) ?_ ?_
            rotate_left
            ·intro w'
             go_simp
             with_reducible rfl
            rotate_left
            ·simp only [Act.put, sA, sB, sC, i64_w, i32_w]
             rfl
            refine pure_ (i := 8) (N := some 164) (v := ?_) (a' := ?_) #[true, true, true, true, true, true, true, true, true, false, false, false, false, false, false, false, false, false, false, false, false, false, false, false, false] rfl rfl (any_of HT_.out (by kernel_rfl)) (fun _ _ _ h => h) (Or.inl ⟨by rfl, ?_⟩) ?_ ?_
            rotate_left
            ·intro w'
             go_simp
             with_reducible rfl
            rotate_left
            ·simp only [Act.put, sA, sB, sC, i64_w, i32_w]
             rfl
            refine pure_ (i := 10) (N := some 166) (v := ?_) (a' := ?_) #[true, true, true, true, true, true, true, true, true, false, true, false, false, false, false, false, false, false, false, false, false, false, false, false, false] rfl rfl (any_of HT_.out (by kernel_rfl)) (fun _ _ _ h => h) (Or.inl ⟨by rfl, ?_⟩) ?_ ?_
            rotate_left
            ·intro w'
             go_simp
             with_reducible rfl
            rotate_left
            ·simp only [Act.put, sA, sB, sC, i64_w, i32_w]
             rfl
            refine pure_ (i := 11) (N := some 167) (v := ?_) (a' := ?_) #[true, true, true, true, true, true, true, true, true, false, true, true, false, false, false, false, false, false, false, false, false, false, false, false, false] rfl rfl (any_of HT_.out (by kernel_rfl)) (fun _ _ _ h => h) (Or.inl ⟨by rfl, ?_⟩) ?_ ?_
            rotate_left
            ·intro w'
             go_simp
             with_reducible rfl
            rotate_left
            ·simp only [Act.put, sA, sB, sC, i64_w, i32_w]
             rfl
            refine pure_ (i := 12) (N := some 168) (v := ?_) (a' := ?_) #[true, true, true, true, true, true, true, true, true, false, true, true, true, false, false, false, false, false, false, false, false, false, false, false, false] rfl rfl (any_of HT_.out (by kernel_rfl)) (fun _ _ _ h => h) (Or.inl ⟨by rfl, ?_⟩) ?_ ?_
            rotate_left
            ·intro w'
             go_simp
             with_reducible rfl
            rotate_left
            ·simp only [Act.put, sA, sB, sC, i64_w, i32_w]
             rfl
            refine pure_ (i := 13) (N := some 169) (v := ?_) (a' := ?_) #[true, true, true, true, true, true, true, true, true, false, true, true, true, true, false, false, false, false, false, false, false, false, false, false, false] rfl rfl (any_of HT_.out (by kernel_rfl)) (fun _ _ _ h => h) (Or.inl ⟨by rfl, ?_⟩) ?_ ?_
            rotate_left
            ·intro w'
             go_simp
             with_reducible rfl
            rotate_left
            ·simp only [Act.put, sA, sB, sC, i64_w, i32_w]
             rfl
            refine take_ (i := 9) (N := some 165) (v := ?_) (a' := ?_) #[true, true, true, true, true, true, true, true, true, true, true, true, true, true, false, false, false, false, false, false, false, false, false, false, false] rfl rfl (take_ofW HT_.out HW_.out (by kernel_rfl)) (fun _ _ _ h => h) (Or.inl ⟨by rfl, ?_⟩) hHeld ?_ ?_
            rotate_left
            ·rintro w' ⟨s0, s1, s2, s3, s4, s5, s6, s7, s8⟩
             go_simp
             with_reducible rfl
            rotate_left
            ·simp only [Act.put, sA, sB, sC, i64_w, i32_w]
             rfl
            refine one_ (i := 14) (N := some 170) #[true, true, true, true, true, true, true, true, true, true, true, true, true, true, true, false, false, false, false, false, false, false, false, false, false] rfl rfl (one_of HT_.out (by kernel_rfl)) (by decide) (fun K hK => ?_)
            refine goes_ Try.func44 (by kernel_rfl) rfl #[.int .u8 a0, .int .u16 a2, .string a3, .int .i64 a4] (by rfl) rfl rfl (by (try simp only [List.map_toArray, List.map_cons, List.map_nil]); first | done | rfl | (simp only [List.length_drop, List.length_take]; rfl)) ?_
            with_reducible refine (halyardref11_Proto.calls a0 a2 a3 a4 t209 t210 t211 _ A148.out).mono ?_
            rintro e w169 ⟨rfl, hb⟩
            refine ⟨_, rfl, ?_⟩
            have n0_ := nB (by (with_reducible repeat first | apply bN | apply bD | apply bA); exact BK170.out) hb
            have n1_ := nB (by (with_reducible repeat first | apply bN | apply bD | apply bA); exact BK176.out) hb
            have n2_ := nB (by (with_reducible repeat first | apply bN | apply bD | apply bA); exact BK181.out) hb
            have n3_ := nB (by (with_reducible repeat first | apply bN | apply bD | apply bA); exact BK192.out) hb
            have n4_ := nB (by (with_reducible repeat first | apply bN | apply bD | apply bA); exact BK197.out) hb
            have n5_ := nB (by (with_reducible repeat first | apply bN | apply bD | apply bA); exact BK202.out) hb
            have n6_ := nB (by (with_reducible repeat first | apply bN | apply bD | apply bA); exact BK208.out) hb
            have n7_ := mkA (below_step (by repeat (first | (with_reducible first | exact HB.out | apply wA | apply wN | apply w1_ | refine wS ?_ (by assumption)) | exact HB.out)) hb)
            clear BK170
            clear BK176
            clear BK181
            clear BK192
            clear BK197
            clear BK202
            clear BK208
            clear HB
            have BK170 := n0_
            have BK176 := n1_
            have BK181 := n2_
            have BK192 := n3_
            have BK197 := n4_
            have BK202 := n5_
            have BK208 := n6_
            have HB := n7_
            clear n0_ n1_ n2_ n3_ n4_ n5_ n6_ n7_
            (try clear hb)
            (try clear hb2)
            (try clear hk)
            (try clear hi)
            refine hK.out _ _ ⟨(blk_cell BK176.out 0).trans rfl, (blk_cell BK176.out 1).trans rfl, (blk_cell BK176.out 2).trans rfl, (blk_cell BK208.out 0).trans rfl, (blk_cell BK208.out 1).trans rfl, (blk_cell BK208.out 2).trans rfl, (blk_cell BK181.out 0).trans rfl, (blk_cell BK181.out 1).trans rfl, (blk_cell BK181.out 2).trans rfl⟩ (fun hHeld => ?_)
            clear hK K
            refine norm_ (a' := ?_) ?_ ?_
            rotate_left
            ·show Act.put _ (some 170) _ = _
             simp only [Act.put, sA, sB, sC, i64_w, i32_w]
             rfl
            refine pure_ (i := 15) (N := some 171) (v := ?_) (a' := ?_) #[true, true, true, true, true, true, true, true, true, true, true, true, true, true, true, true, false, false, false, false, false, false, false, false, false] rfl rfl (any_of HT_.out (by kernel_rfl)) (fun _ _ _ h => h) (Or.inl ⟨by rfl, ?_⟩) ?_ ?_
            rotate_left
            ·intro w'
             go_simp
             with_reducible rfl
            rotate_left
            ·simp only [Act.put, sA, sB, sC, i64_w, i32_w]
             rfl
            refine pure_ (i := 16) (N := some 172) (v := ?_) (a' := ?_) #[true, true, true, true, true, true, true, true, true, true, true, true, true, true, true, true, true, false, false, false, false, false, false, false, false] rfl rfl (any_of HT_.out (by kernel_rfl)) (fun _ _ _ h => h) (Or.inl ⟨by rfl, ?_⟩) ?_ ?_
            rotate_left
            ·intro w'
             go_simp
             with_reducible rfl
            rotate_left
            ·simp only [Act.put, sA, sB, sC, i64_w, i32_w]
             rfl
            refine pure_ (i := 17) (N := some 173) (v := ?_) (a' := ?_) #[true, true, true, true, true, true, true, true, true, true, true, true, true, true, true, true, true, true, false, false, false, false, false, false, false] rfl rfl (any_of HT_.out (by kernel_rfl)) (fun _ _ _ h => h) (Or.inl ⟨by rfl, ?_⟩) ?_ ?_
            rotate_left
            ·intro w'
             go_simp
             with_reducible rfl
            rotate_left
            ·simp only [Act.put, sA, sB, sC, i64_w, i32_w]
             rfl
            refine pure_ (i := 18) (N := some 174) (v := ?_) (a' := ?_) #[true, true, true, true, true, true, true, true, true, true, true, true, true, true, true, true, true, true, true, false, false, false, false, false, false] rfl rfl (any_of HT_.out (by kernel_rfl)) (fun _ _ _ h => h) (Or.inl ⟨by rfl, ?_⟩) ?_ ?_
            rotate_left
            ·intro w'
             go_simp
             with_reducible rfl
            rotate_left
            ·simp only [Act.put, sA, sB, sC, i64_w, i32_w]
             rfl
            refine pure_ (i := 19) (N := some 175) (v := ?_) (a' := ?_) #[true, true, true, true, true, true, true, true, true, true, true, true, true, true, true, true, true, true, true, true, false, false, false, false, false] rfl rfl (any_of HT_.out (by kernel_rfl)) (fun _ _ _ h => h) (Or.inl ⟨by rfl, ?_⟩) ?_ ?_
            rotate_left
            ·intro w'
             go_simp
             with_reducible rfl
            rotate_left
            ·simp only [Act.put, sA, sB, sC, i64_w, i32_w]
             rfl
            refine pure_ (i := 20) (N := some 176) (v := ?_) (a' := ?_) #[true, true, true, true, true, true, true, true, true, true, true, true, true, true, true, true, true, true, true, true, true, false, false, false, false] rfl rfl (any_of HT_.out (by kernel_rfl)) (fun _ _ _ h => h) (Or.inl ⟨by rfl, ?_⟩) ?_ ?_
            rotate_left
            ·intro w'
             go_simp
             with_reducible rfl
            rotate_left
            ·simp only [Act.put, sA, sB, sC, i64_w, i32_w]
             rfl
            refine pure_ (i := 21) (N := some 177) (v := ?_) (a' := ?_) #[true, true, true, true, true, true, true, true, true, true, true, true, true, true, true, true, true, true, true, true, true, true, false, false, false] rfl rfl (any_of HT_.out (by kernel_rfl)) (fun _ _ _ h => h) (Or.inl ⟨by rfl, ?_⟩) ?_ ?_
            rotate_left
            ·intro w'
             go_simp
             with_reducible rfl
            rotate_left
            ·simp only [Act.put, sA, sB, sC, i64_w, i32_w]
             rfl
            refine one_ (i := 22) (N := some 178) #[true, true, true, true, true, true, true, true, true, true, true, true, true, true, true, true, true, true, true, true, true, true, true, false, false] rfl rfl (one_of HT_.out (by kernel_rfl)) (by decide) (fun K hK => ?_)
            refine goes_ Try.func33 (by kernel_rfl) rfl #[] (by rfl) rfl rfl (by (try simp only [List.map_toArray, List.map_cons, List.map_nil]); first | done | rfl | (simp only [List.length_drop, List.length_take]; rfl)) ?_
            with_reducible refine (halyardlaw11_alive.calls  t212 _ A151.out).mono ?_
            rintro e w170 ⟨rfl, hb⟩
            refine ⟨_, rfl, ?_⟩
            have n0_ := nB (by (with_reducible repeat first | apply bN | apply bD | apply bA); exact BK170.out) hb
            have n1_ := nB (by (with_reducible repeat first | apply bN | apply bD | apply bA); exact BK176.out) hb
            have n2_ := nB (by (with_reducible repeat first | apply bN | apply bD | apply bA); exact BK181.out) hb
            have n3_ := nB (by (with_reducible repeat first | apply bN | apply bD | apply bA); exact BK192.out) hb
            have n4_ := nB (by (with_reducible repeat first | apply bN | apply bD | apply bA); exact BK197.out) hb
            have n5_ := nB (by (with_reducible repeat first | apply bN | apply bD | apply bA); exact BK202.out) hb
            have n6_ := nB (by (with_reducible repeat first | apply bN | apply bD | apply bA); exact BK208.out) hb
            have n7_ := mkA (below_step (by repeat (first | (with_reducible first | exact HB.out | apply wA | apply wN | apply w1_ | refine wS ?_ (by assumption)) | exact HB.out)) hb)
            clear BK170
            clear BK176
            clear BK181
            clear BK192
            clear BK197
            clear BK202
            clear BK208
            clear HB
            have BK170 := n0_
            have BK176 := n1_
            have BK181 := n2_
            have BK192 := n3_
            have BK197 := n4_
            have BK202 := n5_
            have BK208 := n6_
            have HB := n7_
            clear n0_ n1_ n2_ n3_ n4_ n5_ n6_ n7_
            (try clear hb)
            (try clear hb2)
            (try clear hk)
            (try clear hi)
            refine hK.out _ _ ⟨(blk_cell BK176.out 0).trans rfl, (blk_cell BK176.out 1).trans rfl, (blk_cell BK176.out 2).trans rfl, (blk_cell BK208.out 0).trans rfl, (blk_cell BK208.out 1).trans rfl, (blk_cell BK208.out 2).trans rfl, (blk_cell BK181.out 0).trans rfl, (blk_cell BK181.out 1).trans rfl, (blk_cell BK181.out 2).trans rfl⟩ (fun hHeld => ?_)
            clear hK K
            refine norm_ (a' := ?_) ?_ ?_
            rotate_left
            ·show Act.put _ (some 178) _ = _
             simp only [Act.put, sA, sB, sC, i64_w, i32_w]
             rfl
            refine pure_ (i := 23) (N := some 179) (v := ?_) (a' := ?_) #[true, true, true, true, true, true, true, true, true, true, true, true, true, true, true, true, true, true, true, true, true, true, true, true, false] rfl rfl (any_of HT_.out (by kernel_rfl)) (fun _ _ _ h => h) (Or.inl ⟨by rfl, ?_⟩) ?_ ?_
            rotate_left
            ·intro w'
             go_simp
             with_reducible rfl
            rotate_left
            ·simp only [Act.put, sA, sB, sC, i64_w, i32_w]
             rfl
            refine pure_ (i := 24) (N := some 12) (v := ?_) (a' := ?_) #[true, true, true, true, true, true, true, true, true, true, true, true, true, true, true, true, true, true, true, true, true, true, true, true, true] rfl rfl (any_of HT_.out (by kernel_rfl)) (fun _ _ _ h => h) (Or.inl ⟨by rfl, ?_⟩) ?_ ?_
            rotate_left
            ·intro w'
             go_simp
             with_reducible rfl
            rotate_left
            ·simp only [Act.put, sA, sB, sC, i64_w, i32_w]
             rfl
            refine done_ (done_of HT_.out (by kernel_rfl)) ?_
            try go_wp2
            go_ret
            exact ⟨by first | rfl | (simp <;> rfl) | (simp [*] <;> rfl), by repeat (first | (with_reducible first | exact HB.out | apply wA | apply wN | apply w1_ | refine wS ?_ (by assumption)) | exact HB.out)⟩
           ·rw [if_neg c150] at H
            have c150b0 : (t180 == 0) = false := beq_eq_false_iff_ne.mpr c150
            have c150b1 : (t180 != 0) = true := bne_iff_ne.mpr c150
            obtain rfl := Option.some.inj H
            try go_wp2_with (first | ((with_reducible refine gate_callee (f := 42) rfl ?_); refine goesL_ (some 128) rfl rfl Try.func42 (by kernel_rfl) rfl #[.int .i64 a4] rfl (by (try simp only [List.map_toArray, List.map_cons, List.map_nil]); first | done | rfl | (simp only [List.length_drop, List.length_take]; rfl)) ?_; (with_reducible refine (halyardref11_May.calls a4 true _ A143.out).mono ?_); rintro e w' ⟨rfl, ⟨nd, rfl⟩⟩; refine ⟨_, rfl, ?_⟩; (try (rw [drewN_self wc]; generalize hq_ : World.drewN wc _ = wc; have n0_ : Aside0 (wc.heap[gb170]? = some (.cells #[.int .u8 a1_0, .int .u8 a1_1, .string a1_2] 25 (0, 0))) := ⟨by rw [← hq_]; exact (by (with_reducible repeat first | apply bN | apply bD | apply bA); exact BK170.out)⟩; have n1_ : Aside0 (wc.heap[gb176]? = some (.cells #[.int .u8 t172, .int .u8 t173, .string t174] 25 (0, 0))) := ⟨by rw [← hq_]; exact (by (with_reducible repeat first | apply bN | apply bD | apply bA); exact BK176.out)⟩; have n2_ : Aside0 (wc.heap[gb181]? = some (.cells #[.int .u8 t177, .int .u8 t178, .string t179] 25 (0, 0))) := ⟨by rw [← hq_]; exact (by (with_reducible repeat first | apply bN | apply bD | apply bA); exact BK181.out)⟩; have n3_ : Aside0 (wc.heap[gb192]? = some (.cells #[.int .u8 t188, .int .u8 t189, .string t190] 25 (0, 0))) := ⟨by rw [← hq_]; exact (by (with_reducible repeat first | apply bN | apply bD | apply bA); exact BK192.out)⟩; have n4_ : Aside0 (wc.heap[gb197]? = some (.cells #[.int .u8 t193, .int .u8 t194, .string t195] 25 (0, 0))) := ⟨by rw [← hq_]; exact (by (with_reducible repeat first | apply bN | apply bD | apply bA); exact BK197.out)⟩; have n5_ : Aside0 (wc.heap[gb202]? = some (.cells #[.int .u8 t198, .int .u8 t199, .string t200] 25 (0, 0))) := ⟨by rw [← hq_]; exact (by (with_reducible repeat first | apply bN | apply bD | apply bA); exact BK202.out)⟩; have n6_ : Aside0 (Below w.heap.size w wc) := ⟨by rw [← hq_]; exact (by repeat (first | (with_reducible first | exact HB.out | apply wA | apply wN | apply w1_ | refine wS ?_ (by assumption)) | exact HB.out))⟩; clear BK170 BK176 BK181 BK192 BK197 BK202 HB hq_; have BK170 := n0_; have BK176 := n1_; have BK181 := n2_; have BK192 := n3_; have BK197 := n4_; have BK202 := n5_; have HB := n6_; clear n0_ n1_ n2_ n3_ n4_ n5_ n6_)); have hnb171 := NB170_176.out; have hnc171 := NB176_170.out; have hnb172 := NB170_181.out; have hnc172 := NB181_170.out; have hnb173 := NB170_192.out; have hnc173 := NB192_170.out; have hnb174 := NB170_197.out; have hnc174 := NB197_170.out; have hnb175 := NB170_202.out; have hnc175 := NB202_170.out; have hcz176_0 : wc.cell? ⟨gb170, 0, none⟩ = some (.int .u8 a1_0) := (blk_cell BK170.out 0).trans rfl; have hcz176_1 : wc.cell? ⟨gb170, 1, none⟩ = some (.int .u8 a1_1) := (blk_cell BK170.out 1).trans rfl; have hcz176_2 : wc.cell? ⟨gb170, 2, none⟩ = some (.string a1_2) := (blk_cell BK170.out 2).trans rfl; have hfz176_0 := blk_frozen BK170.out 0; have hfz176_1 := blk_frozen BK170.out 1; have hfz176_2 := blk_frozen BK170.out 2) | ((with_reducible refine gate_callee (f := 43) rfl ?_); refine goesL_ (some 153) rfl rfl Try.func43 (by kernel_rfl) rfl #[.int .u8 a0, .agg #[.int .u8 a1_0, .int .u8 a1_1, .string a1_2], .int .i64 a4] rfl (by (try simp only [List.map_toArray, List.map_cons, List.map_nil]); first | done | rfl | (simp only [List.length_drop, List.length_take]; rfl)) ?_; (with_reducible refine (halyardref11_Code.calls a0 a1_0 a1_1 a1_2 a4 t204 t205 t206 t207 _ A145.out).mono ?_); rintro e w177 ⟨rfl, hb⟩; refine ⟨_, rfl, ?_⟩; have n0_ := nB (by (with_reducible repeat first | apply bN | apply bD | apply bA); exact BK170.out) hb; have n1_ := nB (by (with_reducible repeat first | apply bN | apply bD | apply bA); exact BK176.out) hb; have n2_ := nB (by (with_reducible repeat first | apply bN | apply bD | apply bA); exact BK181.out) hb; have n3_ := nB (by (with_reducible repeat first | apply bN | apply bD | apply bA); exact BK192.out) hb; have n4_ := nB (by (with_reducible repeat first | apply bN | apply bD | apply bA); exact BK197.out) hb; have n5_ := nB (by (with_reducible repeat first | apply bN | apply bD | apply bA); exact BK202.out) hb; have n6_ := mkA (below_step (by repeat (first | (with_reducible first | exact HB.out | apply wA | apply wN | apply w1_ | refine wS ?_ (by assumption)) | exact HB.out)) hb); clear BK170; clear BK176; clear BK181; clear BK192; clear BK197; clear BK202; clear HB; have BK170 := n0_; have BK176 := n1_; have BK181 := n2_; have BK192 := n3_; have BK197 := n4_; have BK202 := n5_; have HB := n6_; clear n0_ n1_ n2_ n3_ n4_ n5_ n6_; (try clear hb); (try clear hb2); (try clear hk); (try clear hi)) | ((with_reducible refine gate_dst (N := 29) rfl ?_); refine box_event ?hg (N := 29) ?hd (cs := #[.int .u8 0, .int .u8 0, .string (⟨#[]⟩ : ByteArray)]) (t := 25) ?hr ?_; (case hd => rfl); (case hg => rfl); (case hr => first | (go_simp; done) | (go_simp; rfl)); intro gb208 hg w178 hbox hb; have n0_ := nB (by (with_reducible repeat first | apply bN | apply bD | apply bA); exact BK170.out) hb; have n1_ := nB (by (with_reducible repeat first | apply bN | apply bD | apply bA); exact BK176.out) hb; have n2_ := nB (by (with_reducible repeat first | apply bN | apply bD | apply bA); exact BK181.out) hb; have n3_ := nB (by (with_reducible repeat first | apply bN | apply bD | apply bA); exact BK192.out) hb; have n4_ := nB (by (with_reducible repeat first | apply bN | apply bD | apply bA); exact BK197.out) hb; have n5_ := nB (by (with_reducible repeat first | apply bN | apply bD | apply bA); exact BK202.out) hb; have n6_ := mkA (below_step (by repeat (first | (with_reducible first | exact HB.out | apply wA | apply wN | apply w1_ | refine wS ?_ (by assumption)) | exact HB.out)) hb); have n7_ := mkA (hbox); have n8_ := mkA ((by rw [hg]; exact (below_size (by repeat (first | (with_reducible first | exact HB.out | apply wA | apply wN | apply w1_ | refine wS ?_ (by assumption)) | exact HB.out))) : w.heap.size ≤ gb208)); have n9_ := mkA ((by rw [hg]; exact (below_size (by repeat (first | (with_reducible first | exact HB.out | apply wA | apply wN | apply w1_ | refine wS ?_ (by assumption)) | exact HB.out))) : w.heap.size ≤ gb208)); have n10_ := mkA ((by rw [hg]; exact Nat.ne_of_lt (blk_lt (g := gb170) (o := .cells #[.int .u8 a1_0, .int .u8 a1_1, .string a1_2] 25 (0, 0)) (by (with_reducible repeat first | apply bN | apply bD | apply bA); exact BK170.out)) : gb170 ≠ gb208)); have n11_ := mkA ((by rw [hg]; exact Nat.ne_of_gt (blk_lt (g := gb170) (o := .cells #[.int .u8 a1_0, .int .u8 a1_1, .string a1_2] 25 (0, 0)) (by (with_reducible repeat first | apply bN | apply bD | apply bA); exact BK170.out)) : gb208 ≠ gb170)); have n12_ := mkA ((by rw [hg]; exact Nat.ne_of_lt (blk_lt (g := gb176) (o := .cells #[.int .u8 t172, .int .u8 t173, .string t174] 25 (0, 0)) (by (with_reducible repeat first | apply bN | apply bD | apply bA); exact BK176.out)) : gb176 ≠ gb208)); have n13_ := mkA ((by rw [hg]; exact Nat.ne_of_gt (blk_lt (g := gb176) (o := .cells #[.int .u8 t172, .int .u8 t173, .string t174] 25 (0, 0)) (by (with_reducible repeat first | apply bN | apply bD | apply bA); exact BK176.out)) : gb208 ≠ gb176)); have n14_ := mkA ((by rw [hg]; exact Nat.ne_of_lt (blk_lt (g := gb181) (o := .cells #[.int .u8 t177, .int .u8 t178, .string t179] 25 (0, 0)) (by (with_reducible repeat first | apply bN | apply bD | apply bA); exact BK181.out)) : gb181 ≠ gb208)); have n15_ := mkA ((by rw [hg]; exact Nat.ne_of_gt (blk_lt (g := gb181) (o := .cells #[.int .u8 t177, .int .u8 t178, .string t179] 25 (0, 0)) (by (with_reducible repeat first | apply bN | apply bD | apply bA); exact BK181.out)) : gb208 ≠ gb181)); have n16_ := mkA ((by rw [hg]; exact Nat.ne_of_lt (blk_lt (g := gb192) (o := .cells #[.int .u8 t188, .int .u8 t189, .string t190] 25 (0, 0)) (by (with_reducible repeat first | apply bN | apply bD | apply bA); exact BK192.out)) : gb192 ≠ gb208)); have n17_ := mkA ((by rw [hg]; exact Nat.ne_of_gt (blk_lt (g := gb192) (o := .cells #[.int .u8 t188, .int .u8 t189, .string t190] 25 (0, 0)) (by (with_reducible repeat first | apply bN | apply bD | apply bA); exact BK192.out)) : gb208 ≠ gb192)); have n18_ := mkA ((by rw [hg]; exact Nat.ne_of_lt (blk_lt (g := gb197) (o := .cells #[.int .u8 t193, .int .u8 t194, .string t195] 25 (0, 0)) (by (with_reducible repeat first | apply bN | apply bD | apply bA); exact BK197.out)) : gb197 ≠ gb208)); have n19_ := mkA ((by rw [hg]; exact Nat.ne_of_gt (blk_lt (g := gb197) (o := .cells #[.int .u8 t193, .int .u8 t194, .string t195] 25 (0, 0)) (by (with_reducible repeat first | apply bN | apply bD | apply bA); exact BK197.out)) : gb208 ≠ gb197)); have n20_ := mkA ((by rw [hg]; exact Nat.ne_of_lt (blk_lt (g := gb202) (o := .cells #[.int .u8 t198, .int .u8 t199, .string t200] 25 (0, 0)) (by (with_reducible repeat first | apply bN | apply bD | apply bA); exact BK202.out)) : gb202 ≠ gb208)); have n21_ := mkA ((by rw [hg]; exact Nat.ne_of_gt (blk_lt (g := gb202) (o := .cells #[.int .u8 t198, .int .u8 t199, .string t200] 25 (0, 0)) (by (with_reducible repeat first | apply bN | apply bD | apply bA); exact BK202.out)) : gb208 ≠ gb202)); clear BK170; clear BK176; clear BK181; clear BK192; clear BK197; clear BK202; clear HB; have BK170 := n0_; have BK176 := n1_; have BK181 := n2_; have BK192 := n3_; have BK197 := n4_; have BK202 := n5_; have HB := n6_; have BK208 := n7_; have GW208 := n8_; have GE208 := n9_; have NB170_208 := n10_; have NB208_170 := n11_; have NB176_208 := n12_; have NB208_176 := n13_; have NB181_208 := n14_; have NB208_181 := n15_; have NB192_208 := n16_; have NB208_192 := n17_; have NB197_208 := n18_; have NB208_197 := n19_; have NB202_208 := n20_; have NB208_202 := n21_; clear n0_ n1_ n2_ n3_ n4_ n5_ n6_ n7_ n8_ n9_ n10_ n11_ n12_ n13_ n14_ n15_ n16_ n17_ n18_ n19_ n20_ n21_; clear hb hbox hg; have hnb179 := NB208_170.out; have hnc179 := NB170_208.out; have hnb180 := NB208_176.out; have hnc180 := NB176_208.out; have hnb181 := NB208_181.out; have hnc181 := NB181_208.out; have hnb182 := NB208_192.out; have hnc182 := NB192_208.out; have hnb183 := NB208_197.out; have hnc183 := NB197_208.out; have hnb184 := NB208_202.out; have hnc184 := NB202_208.out; have hcz185_0 : w178.cell? ⟨gb208, 0, none⟩ = some (.int .u8 0) := (blk_cell BK208.out 0).trans rfl; have hcz185_1 : w178.cell? ⟨gb208, 1, none⟩ = some (.int .u8 0) := (blk_cell BK208.out 1).trans rfl; have hcz185_2 : w178.cell? ⟨gb208, 2, none⟩ = some (.string (⟨#[]⟩ : ByteArray)) := (blk_cell BK208.out 2).trans rfl; have hfz185_0 := blk_frozen BK208.out 0; have hfz185_1 := blk_frozen BK208.out 1; have hfz185_2 := blk_frozen BK208.out 2))
            have n0_ : Aside0 ((((w178.setCell ⟨gb208, 0, none⟩ (.int .u8 t204)).setCell ⟨gb208, 1, none⟩ (.int .u8 t205)).setCell ⟨gb208, 2, none⟩ (.string t206)).heap[gb170]? = some (.cells #[.int .u8 a1_0, .int .u8 a1_1, .string a1_2] 25 (0, 0))) := ⟨by (with_reducible repeat first | apply bN | apply bD | apply bA); refine blk_far ?_ NB170_208.out _; (with_reducible repeat first | apply bN | apply bD | apply bA); refine blk_far ?_ NB170_208.out _; (with_reducible repeat first | apply bN | apply bD | apply bA); refine blk_far ?_ NB170_208.out _; (with_reducible repeat first | apply bN | apply bD | apply bA); exact BK170.out⟩
            have n1_ : Aside0 ((((w178.setCell ⟨gb208, 0, none⟩ (.int .u8 t204)).setCell ⟨gb208, 1, none⟩ (.int .u8 t205)).setCell ⟨gb208, 2, none⟩ (.string t206)).heap[gb176]? = some (.cells #[.int .u8 t172, .int .u8 t173, .string t174] 25 (0, 0))) := ⟨by (with_reducible repeat first | apply bN | apply bD | apply bA); refine blk_far ?_ NB176_208.out _; (with_reducible repeat first | apply bN | apply bD | apply bA); refine blk_far ?_ NB176_208.out _; (with_reducible repeat first | apply bN | apply bD | apply bA); refine blk_far ?_ NB176_208.out _; (with_reducible repeat first | apply bN | apply bD | apply bA); exact BK176.out⟩
            have n2_ : Aside0 ((((w178.setCell ⟨gb208, 0, none⟩ (.int .u8 t204)).setCell ⟨gb208, 1, none⟩ (.int .u8 t205)).setCell ⟨gb208, 2, none⟩ (.string t206)).heap[gb181]? = some (.cells #[.int .u8 t177, .int .u8 t178, .string t179] 25 (0, 0))) := ⟨by (with_reducible repeat first | apply bN | apply bD | apply bA); refine blk_far ?_ NB181_208.out _; (with_reducible repeat first | apply bN | apply bD | apply bA); refine blk_far ?_ NB181_208.out _; (with_reducible repeat first | apply bN | apply bD | apply bA); refine blk_far ?_ NB181_208.out _; (with_reducible repeat first | apply bN | apply bD | apply bA); exact BK181.out⟩
            have n3_ : Aside0 ((((w178.setCell ⟨gb208, 0, none⟩ (.int .u8 t204)).setCell ⟨gb208, 1, none⟩ (.int .u8 t205)).setCell ⟨gb208, 2, none⟩ (.string t206)).heap[gb192]? = some (.cells #[.int .u8 t188, .int .u8 t189, .string t190] 25 (0, 0))) := ⟨by (with_reducible repeat first | apply bN | apply bD | apply bA); refine blk_far ?_ NB192_208.out _; (with_reducible repeat first | apply bN | apply bD | apply bA); refine blk_far ?_ NB192_208.out _; (with_reducible repeat first | apply bN | apply bD | apply bA); refine blk_far ?_ NB192_208.out _; (with_reducible repeat first | apply bN | apply bD | apply bA); exact BK192.out⟩
            have n4_ : Aside0 ((((w178.setCell ⟨gb208, 0, none⟩ (.int .u8 t204)).setCell ⟨gb208, 1, none⟩ (.int .u8 t205)).setCell ⟨gb208, 2, none⟩ (.string t206)).heap[gb197]? = some (.cells #[.int .u8 t193, .int .u8 t194, .string t195] 25 (0, 0))) := ⟨by (with_reducible repeat first | apply bN | apply bD | apply bA); refine blk_far ?_ NB197_208.out _; (with_reducible repeat first | apply bN | apply bD | apply bA); refine blk_far ?_ NB197_208.out _; (with_reducible repeat first | apply bN | apply bD | apply bA); refine blk_far ?_ NB197_208.out _; (with_reducible repeat first | apply bN | apply bD | apply bA); exact BK197.out⟩
            have n5_ : Aside0 ((((w178.setCell ⟨gb208, 0, none⟩ (.int .u8 t204)).setCell ⟨gb208, 1, none⟩ (.int .u8 t205)).setCell ⟨gb208, 2, none⟩ (.string t206)).heap[gb202]? = some (.cells #[.int .u8 t198, .int .u8 t199, .string t200] 25 (0, 0))) := ⟨by (with_reducible repeat first | apply bN | apply bD | apply bA); refine blk_far ?_ NB202_208.out _; (with_reducible repeat first | apply bN | apply bD | apply bA); refine blk_far ?_ NB202_208.out _; (with_reducible repeat first | apply bN | apply bD | apply bA); refine blk_far ?_ NB202_208.out _; (with_reducible repeat first | apply bN | apply bD | apply bA); exact BK202.out⟩
            have n6_ : Aside0 ((((w178.setCell ⟨gb208, 0, none⟩ (.int .u8 t204)).setCell ⟨gb208, 1, none⟩ (.int .u8 t205)).setCell ⟨gb208, 2, none⟩ (.string t206)).heap[gb208]? = some (.cells #[.int .u8 t204, .int .u8 t205, .string t206] 25 (0, 0))) := ⟨by (with_reducible repeat first | apply bN | apply bD | apply bA); refine blk_put (cs := #[.int .u8 t204, .int .u8 t205, .string (⟨#[]⟩ : ByteArray)]) ?_ 2 _ rfl; (with_reducible repeat first | apply bN | apply bD | apply bA); refine blk_put (cs := #[.int .u8 t204, .int .u8 0, .string (⟨#[]⟩ : ByteArray)]) ?_ 1 _ rfl; (with_reducible repeat first | apply bN | apply bD | apply bA); refine blk_put (cs := #[.int .u8 0, .int .u8 0, .string (⟨#[]⟩ : ByteArray)]) ?_ 0 _ rfl; (with_reducible repeat first | apply bN | apply bD | apply bA); exact BK208.out⟩
            have n7_ : Aside0 (Below w.heap.size w (((w178.setCell ⟨gb208, 0, none⟩ (.int .u8 t204)).setCell ⟨gb208, 1, none⟩ (.int .u8 t205)).setCell ⟨gb208, 2, none⟩ (.string t206))) := ⟨by repeat (first | (with_reducible first | exact HB.out | apply wA | apply wN | apply w1_ | refine wS ?_ (by assumption)) | exact HB.out)⟩
            (try clear BK170)
            (try clear BK176)
            (try clear BK181)
            (try clear BK192)
            (try clear BK197)
            (try clear BK202)
            (try clear BK208)
            (try clear HB)
            generalize (((w178.setCell ⟨gb208, 0, none⟩ (.int .u8 t204)).setCell ⟨gb208, 1, none⟩ (.int .u8 t205)).setCell ⟨gb208, 2, none⟩ (.string t206)) = w186 at n0_ n1_ n2_ n3_ n4_ n5_ n6_ n7_ ⊢
            have BK170 := n0_
            have BK176 := n1_
            have BK181 := n2_
            have BK192 := n3_
            have BK197 := n4_
            have BK202 := n5_
            have BK208 := n6_
            have HB := n7_
            clear n0_ n1_ n2_ n3_ n4_ n5_ n6_ n7_
            have n0_ := mkA (blk_drew BK170.out)
            have n1_ := mkA (blk_drew BK176.out)
            have n2_ := mkA (blk_drew BK181.out)
            have n3_ := mkA (blk_drew BK192.out)
            have n4_ := mkA (blk_drew BK197.out)
            have n5_ := mkA (blk_drew BK202.out)
            have n6_ := mkA (blk_drew BK208.out)
            have n7_ := mkA (below_drew1 HB.out)
            clear BK170
            clear BK176
            clear BK181
            clear BK192
            clear BK197
            clear BK202
            clear BK208
            clear HB
            have BK170 := n0_
            have BK176 := n1_
            have BK181 := n2_
            have BK192 := n3_
            have BK197 := n4_
            have BK202 := n5_
            have BK208 := n6_
            have HB := n7_
            clear n0_ n1_ n2_ n3_ n4_ n5_ n6_ n7_
            refine start_ (n := 25) (S := fun w' => w'.cell? ⟨gb176, 0, none⟩ = some (.int .u8 t172) ∧ w'.cell? ⟨gb176, 1, none⟩ = some (.int .u8 t173) ∧ w'.cell? ⟨gb176, 2, none⟩ = some (.string t174) ∧ w'.cell? ⟨gb208, 0, none⟩ = some (.int .u8 t204) ∧ w'.cell? ⟨gb208, 1, none⟩ = some (.int .u8 t205) ∧ w'.cell? ⟨gb208, 2, none⟩ = some (.string t206) ∧ w'.cell? ⟨gb181, 0, none⟩ = some (.int .u8 t177) ∧ w'.cell? ⟨gb181, 1, none⟩ = some (.int .u8 t178) ∧ w'.cell? ⟨gb181, 2, none⟩ = some (.string t179)) (ds := []) #[false, false, false, false, false, false, false, false, false, false, false, false, false, false, false, false, false, false, false, false, false, false, false, false, false] (by kernel_rfl) rfl rfl ⟨(blk_cell BK176.out 0).trans rfl, (blk_cell BK176.out 1).trans rfl, (blk_cell BK176.out 2).trans rfl, (blk_cell BK208.out 0).trans rfl, (blk_cell BK208.out 1).trans rfl, (blk_cell BK208.out 2).trans rfl, (blk_cell BK181.out 0).trans rfl, (blk_cell BK181.out 1).trans rfl, (blk_cell BK181.out 2).trans rfl⟩ (fun hHeld => ?_); refine with_tabW halyardlaw11_RejectTells.tab20 halyardlaw11_RejectTells.bits20 (fun HT_ HW_ => ?_)
            generalize w186.drew = w187 at BK170 BK176 BK181 BK192 BK197 BK202 BK208 HB hHeld ⊢
            refine take_ (i := 0) (N := some 156) (v := ?_) (a' := ?_) #[true, false, false, false, false, false, false, false, false, false, false, false, false, false, false, false, false, false, false, false, false, false, false, false, false] rfl rfl (take_ofW HT_.out HW_.out (by kernel_rfl)) (fun _ _ _ h => h) (Or.inl ⟨by rfl, ?_⟩) hHeld ?_ ?_
            rotate_left
            ·rintro w' ⟨s0, s1, s2, s3, s4, s5, s6, s7, s8⟩
             go_simp
             with_reducible rfl
            rotate_left
            ·simp only [Act.put, sA, sB, sC, i64_w, i32_w]
             rfl
            refine take_ (i := 1) (N := some 157) (v := ?_) (a' := ?_) #[true, true, false, false, false, false, false, false, false, false, false, false, false, false, false, false, false, false, false, false, false, false, false, false, false] rfl rfl (take_ofW HT_.out HW_.out (by kernel_rfl)) (fun _ _ _ h => h) (Or.inl ⟨by rfl, ?_⟩) hHeld ?_ ?_
            rotate_left
            ·rintro w' ⟨s0, s1, s2, s3, s4, s5, s6, s7, s8⟩
             go_simp
             with_reducible rfl
            rotate_left
            ·simp only [Act.put, sA, sB, sC, i64_w, i32_w]
             rfl
            refine pure_ (i := 2) (N := some 158) (v := ?_) (a' := ?_) #[true, true, true, false, false, false, false, false, false, false, false, false, false, false, false, false, false, false, false, false, false, false, false, false, false] rfl rfl (any_of HT_.out (by kernel_rfl)) (fun _ _ _ h => h) (Or.inl ⟨by rfl, ?_⟩) ?_ ?_
            rotate_left
            ·intro w'
             go_simp
             with_reducible rfl
            rotate_left
            ·simp only [Act.put, sA, sB, sC, i64_w, i32_w]
             rfl
            refine pure_ (i := 3) (N := some 159) (v := ?_) (a' := ?_) #[true, true, true, true, false, false, false, false, false, false, false, false, false, false, false, false, false, false, false, false, false, false, false, false, false] rfl rfl (any_of HT_.out (by kernel_rfl)) (fun _ _ _ h => h) (Or.inl ⟨by rfl, ?_⟩) ?_ ?_
            rotate_left
            ·intro w'
             go_simp
             with_reducible rfl
            rotate_left
            ·simp only [Act.put, sA, sB, sC, i64_w, i32_w]
             rfl
            refine pure_ (i := 4) (N := some 160) (v := ?_) (a' := ?_) #[true, true, true, true, true, false, false, false, false, false, false, false, false, false, false, false, false, false, false, false, false, false, false, false, false] rfl rfl (any_of HT_.out (by kernel_rfl)) (fun _ _ _ h => h) (Or.inl ⟨by rfl, ?_⟩) ?_ ?_
            rotate_left
            ·intro w'
             go_simp
             with_reducible rfl
            rotate_left
            ·simp only [Act.put, sA, sB, sC, i64_w, i32_w]
             rfl
            refine pure_ (i := 5) (N := some 161) (v := ?_) (a' := ?_) #[true, true, true, true, true, true, false, false, false, false, false, false, false, false, false, false, false, false, false, false, false, false, false, false, false] rfl rfl (any_of HT_.out (by kernel_rfl)) (fun _ _ _ h => h) (Or.inl ⟨by rfl, ?_⟩) ?_ ?_
            rotate_left
            ·intro w'
             go_simp
             with_reducible rfl
            rotate_left
            ·simp only [Act.put, sA, sB, sC, i64_w, i32_w]
             rfl
            refine pure_ (i := 6) (N := some 162) (v := ?_) (a' := ?_) #[true, true, true, true, true, true, true, false, false, false, false, false, false, false, false, false, false, false, false, false, false, false, false, false, false] rfl rfl (any_of HT_.out (by kernel_rfl)) (fun _ _ _ h => h) (Or.inl ⟨by rfl, ?_⟩) ?_ ?_
            rotate_left
            ·intro w'
             go_simp
             with_reducible rfl
            rotate_left
            ·simp only [Act.put, sA, sB, sC, i64_w, i32_w]
             rfl
            refine pure_ (i := 7) (N := some 163) (v := ?_) (a' := ?_) #[true, true, true, true, true, true, true, true, false, false, false, false, false, false, false, false, false, false, false, false, false, false, false, false, false] rfl rfl (any_of HT_.out (by kernel_rfl)) (fun _ _ _ h => h) (Or.inl ⟨by rfl, ?_⟩) ?_ ?_
            rotate_left
            ·intro w'
             go_simp
             with_reducible rfl
            rotate_left
            ·simp only [Act.put, sA, sB, sC, i64_w, i32_w]
             rfl
            refine pure_ (i := 8) (N := some 164) (v := ?_) (a' := ?_) #[true, true, true, true, true, true, true, true, true, false, false, false, false, false, false, false, false, false, false, false, false, false, false, false, false] rfl rfl (any_of HT_.out (by kernel_rfl)) (fun _ _ _ h => h) (Or.inl ⟨by rfl, ?_⟩) ?_ ?_
            rotate_left
            ·intro w'
             go_simp
             with_reducible rfl
            rotate_left
            ·simp only [Act.put, sA, sB, sC, i64_w, i32_w]
             rfl
            refine pure_ (i := 10) (N := some 166) (v := ?_) (a' := ?_) #[true, true, true, true, true, true, true, true, true, false, true, false, false, false, false, false, false, false, false, false, false, false, false, false, false] rfl rfl (any_of HT_.out (by kernel_rfl)) (fun _ _ _ h => h) (Or.inl ⟨by rfl, ?_⟩) ?_ ?_
            rotate_left
            ·intro w'
             go_simp
             with_reducible rfl
            rotate_left
            ·simp only [Act.put, sA, sB, sC, i64_w, i32_w]
             rfl
            refine pure_ (i := 11) (N := some 167) (v := ?_) (a' := ?_) #[true, true, true, true, true, true, true, true, true, false, true, true, false, false, false, false, false, false, false, false, false, false, false, false, false] rfl rfl (any_of HT_.out (by kernel_rfl)) (fun _ _ _ h => h) (Or.inl ⟨by rfl, ?_⟩) ?_ ?_
            rotate_left
            ·intro w'
             go_simp
             with_reducible rfl
            rotate_left
            ·simp only [Act.put, sA, sB, sC, i64_w, i32_w]
             rfl
            refine pure_ (i := 12) (N := some 168) (v := ?_) (a' := ?_) #[true, true, true, true, true, true, true, true, true, false, true, true, true, false, false, false, false, false, false, false, false, false, false, false, false] rfl rfl (any_of HT_.out (by kernel_rfl)) (fun _ _ _ h => h) (Or.inl ⟨by rfl, ?_⟩) ?_ ?_
            rotate_left
            ·intro w'
             go_simp
             with_reducible rfl
            rotate_left
            ·simp only [Act.put, sA, sB, sC, i64_w, i32_w]
             rfl
            refine pure_ (i := 13) (N := some 169) (v := ?_) (a' := ?_) #[true, true, true, true, true, true, true, true, true, false, true, true, true, true, false, false, false, false, false, false, false, false, false, false, false] rfl rfl (any_of HT_.out (by kernel_rfl)) (fun _ _ _ h => h) (Or.inl ⟨by rfl, ?_⟩) ?_ ?_
            rotate_left
            ·intro w'
             go_simp
             with_reducible rfl
            rotate_left
            ·simp only [Act.put, sA, sB, sC, i64_w, i32_w]
             rfl
            refine take_ (i := 9) (N := some 165) (v := ?_) (a' := ?_) #[true, true, true, true, true, true, true, true, true, true, true, true, true, true, false, false, false, false, false, false, false, false, false, false, false] rfl rfl (take_ofW HT_.out HW_.out (by kernel_rfl)) (fun _ _ _ h => h) (Or.inl ⟨by rfl, ?_⟩) hHeld ?_ ?_
            rotate_left
            ·rintro w' ⟨s0, s1, s2, s3, s4, s5, s6, s7, s8⟩
             go_simp
             with_reducible rfl
            rotate_left
            ·simp only [Act.put, sA, sB, sC, i64_w, i32_w]
             rfl
            refine one_ (i := 14) (N := some 170) #[true, true, true, true, true, true, true, true, true, true, true, true, true, true, true, false, false, false, false, false, false, false, false, false, false] rfl rfl (one_of HT_.out (by kernel_rfl)) (by decide) (fun K hK => ?_)
            refine goes_ Try.func44 (by kernel_rfl) rfl #[.int .u8 a0, .int .u16 a2, .string a3, .int .i64 a4] (by rfl) rfl rfl (by (try simp only [List.map_toArray, List.map_cons, List.map_nil]); first | done | rfl | (simp only [List.length_drop, List.length_take]; rfl)) ?_
            with_reducible refine (halyardref11_Proto.calls a0 a2 a3 a4 t209 t210 t211 _ A148.out).mono ?_
            rintro e w188 ⟨rfl, hb⟩
            refine ⟨_, rfl, ?_⟩
            have n0_ := nB (by (with_reducible repeat first | apply bN | apply bD | apply bA); exact BK170.out) hb
            have n1_ := nB (by (with_reducible repeat first | apply bN | apply bD | apply bA); exact BK176.out) hb
            have n2_ := nB (by (with_reducible repeat first | apply bN | apply bD | apply bA); exact BK181.out) hb
            have n3_ := nB (by (with_reducible repeat first | apply bN | apply bD | apply bA); exact BK192.out) hb
            have n4_ := nB (by (with_reducible repeat first | apply bN | apply bD | apply bA); exact BK197.out) hb
            have n5_ := nB (by (with_reducible repeat first | apply bN | apply bD | apply bA); exact BK202.out) hb
            have n6_ := nB (by (with_reducible repeat first | apply bN | apply bD | apply bA); exact BK208.out) hb
            have n7_ := mkA (below_step (by repeat (first | (with_reducible first | exact HB.out | apply wA | apply wN | apply w1_ | refine wS ?_ (by assumption)) | exact HB.out)) hb)
            clear BK170
            clear BK176
            clear BK181
            clear BK192
            clear BK197
            clear BK202
            clear BK208
            clear HB
            have BK170 := n0_
            have BK176 := n1_
            have BK181 := n2_
            have BK192 := n3_
            have BK197 := n4_
            have BK202 := n5_
            have BK208 := n6_
            have HB := n7_
            clear n0_ n1_ n2_ n3_ n4_ n5_ n6_ n7_
            (try clear hb)
            (try clear hb2)
            (try clear hk)
            (try clear hi)
            refine hK.out _ _ ⟨(blk_cell BK176.out 0).trans rfl, (blk_cell BK176.out 1).trans rfl, (blk_cell BK176.out 2).trans rfl, (blk_cell BK208.out 0).trans rfl, (blk_cell BK208.out 1).trans rfl, (blk_cell BK208.out 2).trans rfl, (blk_cell BK181.out 0).trans rfl, (blk_cell BK181.out 1).trans rfl, (blk_cell BK181.out 2).trans rfl⟩ (fun hHeld => ?_)
            clear hK K
            refine norm_ (a' := ?_) ?_ ?_
            rotate_left
            ·show Act.put _ (some 170) _ = _
             simp only [Act.put, sA, sB, sC, i64_w, i32_w]
             rfl
            refine pure_ (i := 15) (N := some 171) (v := ?_) (a' := ?_) #[true, true, true, true, true, true, true, true, true, true, true, true, true, true, true, true, false, false, false, false, false, false, false, false, false] rfl rfl (any_of HT_.out (by kernel_rfl)) (fun _ _ _ h => h) (Or.inl ⟨by rfl, ?_⟩) ?_ ?_
            rotate_left
            ·intro w'
             go_simp
             with_reducible rfl
            rotate_left
            ·simp only [Act.put, sA, sB, sC, i64_w, i32_w]
             rfl
            refine pure_ (i := 16) (N := some 172) (v := ?_) (a' := ?_) #[true, true, true, true, true, true, true, true, true, true, true, true, true, true, true, true, true, false, false, false, false, false, false, false, false] rfl rfl (any_of HT_.out (by kernel_rfl)) (fun _ _ _ h => h) (Or.inl ⟨by rfl, ?_⟩) ?_ ?_
            rotate_left
            ·intro w'
             go_simp
             with_reducible rfl
            rotate_left
            ·simp only [Act.put, sA, sB, sC, i64_w, i32_w]
             rfl
            refine pure_ (i := 17) (N := some 173) (v := ?_) (a' := ?_) #[true, true, true, true, true, true, true, true, true, true, true, true, true, true, true, true, true, true, false, false, false, false, false, false, false] rfl rfl (any_of HT_.out (by kernel_rfl)) (fun _ _ _ h => h) (Or.inl ⟨by rfl, ?_⟩) ?_ ?_
            rotate_left
            ·intro w'
             go_simp
             with_reducible rfl
            rotate_left
            ·simp only [Act.put, sA, sB, sC, i64_w, i32_w]
             rfl
            refine pure_ (i := 18) (N := some 174) (v := ?_) (a' := ?_) #[true, true, true, true, true, true, true, true, true, true, true, true, true, true, true, true, true, true, true, false, false, false, false, false, false] rfl rfl (any_of HT_.out (by kernel_rfl)) (fun _ _ _ h => h) (Or.inl ⟨by rfl, ?_⟩) ?_ ?_
            rotate_left
            ·intro w'
             go_simp
             with_reducible rfl
            rotate_left
            ·simp only [Act.put, sA, sB, sC, i64_w, i32_w]
             rfl
            refine pure_ (i := 19) (N := some 175) (v := ?_) (a' := ?_) #[true, true, true, true, true, true, true, true, true, true, true, true, true, true, true, true, true, true, true, true, false, false, false, false, false] rfl rfl (any_of HT_.out (by kernel_rfl)) (fun _ _ _ h => h) (Or.inl ⟨by rfl, ?_⟩) ?_ ?_
            rotate_left
            ·intro w'
             go_simp
             with_reducible rfl
            rotate_left
            ·simp only [Act.put, sA, sB, sC, i64_w, i32_w]
             rfl
            refine pure_ (i := 20) (N := some 176) (v := ?_) (a' := ?_) #[true, true, true, true, true, true, true, true, true, true, true, true, true, true, true, true, true, true, true, true, true, false, false, false, false] rfl rfl (any_of HT_.out (by kernel_rfl)) (fun _ _ _ h => h) (Or.inl ⟨by rfl, ?_⟩) ?_ ?_
            rotate_left
            ·intro w'
             go_simp
             with_reducible rfl
            rotate_left
            ·simp only [Act.put, sA, sB, sC, i64_w, i32_w]
             rfl
            refine pure_ (i := 21) (N := some 177) (v := ?_) (a' := ?_) #[true, true, true, true, true, true, true, true, true, true, true, true, true, true, true, true, true, true, true, true, true, true, false, false, false] rfl rfl (any_of HT_.out (by kernel_rfl)) (fun _ _ _ h => h) (Or.inl ⟨by rfl, ?_⟩) ?_ ?_
            rotate_left
            ·intro w'
             go_simp
             with_reducible rfl
            rotate_left
            ·simp only [Act.put, sA, sB, sC, i64_w, i32_w]
             rfl
            refine pure_ (i := 22) (N := some 178) (v := undef) (a' := ?_) #[true, true, true, true, true, true, true, true, true, true, true, true, true, true, true, true, true, true, true, true, true, true, true, false, false] rfl rfl (any_of HT_.out (by kernel_rfl)) (fun _ _ _ h => h) (Or.inr ⟨by rfl, rfl⟩) ?_ ?_
            rotate_left
            ·simp only [Act.put, sA, sB, sC, i64_w, i32_w]
             rfl
            refine pure_ (i := 23) (N := some 179) (v := ?_) (a' := ?_) #[true, true, true, true, true, true, true, true, true, true, true, true, true, true, true, true, true, true, true, true, true, true, true, true, false] rfl rfl (any_of HT_.out (by kernel_rfl)) (fun _ _ _ h => h) (Or.inl ⟨by rfl, ?_⟩) ?_ ?_
            rotate_left
            ·intro w'
             go_simp
             with_reducible rfl
            rotate_left
            ·simp only [Act.put, sA, sB, sC, i64_w, i32_w]
             rfl
            refine pure_ (i := 24) (N := some 12) (v := ?_) (a' := ?_) #[true, true, true, true, true, true, true, true, true, true, true, true, true, true, true, true, true, true, true, true, true, true, true, true, true] rfl rfl (any_of HT_.out (by kernel_rfl)) (fun _ _ _ h => h) (Or.inl ⟨by rfl, ?_⟩) ?_ ?_
            rotate_left
            ·intro w'
             go_simp
             with_reducible rfl
            rotate_left
            ·simp only [Act.put, sA, sB, sC, i64_w, i32_w]
             rfl
            refine done_ (done_of HT_.out (by kernel_rfl)) ?_
            try go_wp2
            go_ret
            exact ⟨by first | rfl | (simp <;> rfl) | (simp [*] <;> rfl), by repeat (first | (with_reducible first | exact HB.out | apply wA | apply wN | apply w1_ | refine wS ?_ (by assumption)) | exact HB.out)⟩
          ·rw [if_neg c149] at H
           have c149b0 : (t177 == t209 && (t178 == t210 && (t179.toList == t211.toList))) = false := by simpa using c149
           (try (have c149q_ : (t177 = t209 ∧ t178 = t210 ∧ t179.toList = t211.toList) = False := eq_false (fun h_ => by have z_ := c149b0; simp [h_.1, h_.2.1, h_.2.2] at z_)))
           clear c149
           obtain rfl := Option.some.inj H
           try go_wp2_with (first | ((with_reducible refine gate_callee (f := 42) rfl ?_); refine goesL_ (some 128) rfl rfl Try.func42 (by kernel_rfl) rfl #[.int .i64 a4] rfl (by (try simp only [List.map_toArray, List.map_cons, List.map_nil]); first | done | rfl | (simp only [List.length_drop, List.length_take]; rfl)) ?_; (with_reducible refine (halyardref11_May.calls a4 true _ A143.out).mono ?_); rintro e w' ⟨rfl, ⟨nd, rfl⟩⟩; refine ⟨_, rfl, ?_⟩; (try (rw [drewN_self wc]; generalize hq_ : World.drewN wc _ = wc; have n0_ : Aside0 (wc.heap[gb170]? = some (.cells #[.int .u8 a1_0, .int .u8 a1_1, .string a1_2] 25 (0, 0))) := ⟨by rw [← hq_]; exact (by (with_reducible repeat first | apply bN | apply bD | apply bA); exact BK170.out)⟩; have n1_ : Aside0 (wc.heap[gb176]? = some (.cells #[.int .u8 t172, .int .u8 t173, .string t174] 25 (0, 0))) := ⟨by rw [← hq_]; exact (by (with_reducible repeat first | apply bN | apply bD | apply bA); exact BK176.out)⟩; have n2_ : Aside0 (wc.heap[gb181]? = some (.cells #[.int .u8 t177, .int .u8 t178, .string t179] 25 (0, 0))) := ⟨by rw [← hq_]; exact (by (with_reducible repeat first | apply bN | apply bD | apply bA); exact BK181.out)⟩; have n3_ : Aside0 (wc.heap[gb192]? = some (.cells #[.int .u8 t188, .int .u8 t189, .string t190] 25 (0, 0))) := ⟨by rw [← hq_]; exact (by (with_reducible repeat first | apply bN | apply bD | apply bA); exact BK192.out)⟩; have n4_ : Aside0 (wc.heap[gb197]? = some (.cells #[.int .u8 t193, .int .u8 t194, .string t195] 25 (0, 0))) := ⟨by rw [← hq_]; exact (by (with_reducible repeat first | apply bN | apply bD | apply bA); exact BK197.out)⟩; have n5_ : Aside0 (wc.heap[gb202]? = some (.cells #[.int .u8 t198, .int .u8 t199, .string t200] 25 (0, 0))) := ⟨by rw [← hq_]; exact (by (with_reducible repeat first | apply bN | apply bD | apply bA); exact BK202.out)⟩; have n6_ : Aside0 (Below w.heap.size w wc) := ⟨by rw [← hq_]; exact (by repeat (first | (with_reducible first | exact HB.out | apply wA | apply wN | apply w1_ | refine wS ?_ (by assumption)) | exact HB.out))⟩; clear BK170 BK176 BK181 BK192 BK197 BK202 HB hq_; have BK170 := n0_; have BK176 := n1_; have BK181 := n2_; have BK192 := n3_; have BK197 := n4_; have BK202 := n5_; have HB := n6_; clear n0_ n1_ n2_ n3_ n4_ n5_ n6_)); have hnb189 := NB170_176.out; have hnc189 := NB176_170.out; have hnb190 := NB170_181.out; have hnc190 := NB181_170.out; have hnb191 := NB170_192.out; have hnc191 := NB192_170.out; have hnb192 := NB170_197.out; have hnc192 := NB197_170.out; have hnb193 := NB170_202.out; have hnc193 := NB202_170.out; have hcz194_0 : wc.cell? ⟨gb170, 0, none⟩ = some (.int .u8 a1_0) := (blk_cell BK170.out 0).trans rfl; have hcz194_1 : wc.cell? ⟨gb170, 1, none⟩ = some (.int .u8 a1_1) := (blk_cell BK170.out 1).trans rfl; have hcz194_2 : wc.cell? ⟨gb170, 2, none⟩ = some (.string a1_2) := (blk_cell BK170.out 2).trans rfl; have hfz194_0 := blk_frozen BK170.out 0; have hfz194_1 := blk_frozen BK170.out 1; have hfz194_2 := blk_frozen BK170.out 2) | ((with_reducible refine gate_callee (f := 43) rfl ?_); refine goesL_ (some 153) rfl rfl Try.func43 (by kernel_rfl) rfl #[.int .u8 a0, .agg #[.int .u8 a1_0, .int .u8 a1_1, .string a1_2], .int .i64 a4] rfl (by (try simp only [List.map_toArray, List.map_cons, List.map_nil]); first | done | rfl | (simp only [List.length_drop, List.length_take]; rfl)) ?_; (with_reducible refine (halyardref11_Code.calls a0 a1_0 a1_1 a1_2 a4 t204 t205 t206 t207 _ A145.out).mono ?_); rintro e w195 ⟨rfl, hb⟩; refine ⟨_, rfl, ?_⟩; have n0_ := nB (by (with_reducible repeat first | apply bN | apply bD | apply bA); exact BK170.out) hb; have n1_ := nB (by (with_reducible repeat first | apply bN | apply bD | apply bA); exact BK176.out) hb; have n2_ := nB (by (with_reducible repeat first | apply bN | apply bD | apply bA); exact BK181.out) hb; have n3_ := nB (by (with_reducible repeat first | apply bN | apply bD | apply bA); exact BK192.out) hb; have n4_ := nB (by (with_reducible repeat first | apply bN | apply bD | apply bA); exact BK197.out) hb; have n5_ := nB (by (with_reducible repeat first | apply bN | apply bD | apply bA); exact BK202.out) hb; have n6_ := mkA (below_step (by repeat (first | (with_reducible first | exact HB.out | apply wA | apply wN | apply w1_ | refine wS ?_ (by assumption)) | exact HB.out)) hb); clear BK170; clear BK176; clear BK181; clear BK192; clear BK197; clear BK202; clear HB; have BK170 := n0_; have BK176 := n1_; have BK181 := n2_; have BK192 := n3_; have BK197 := n4_; have BK202 := n5_; have HB := n6_; clear n0_ n1_ n2_ n3_ n4_ n5_ n6_; (try clear hb); (try clear hb2); (try clear hk); (try clear hi)) | ((with_reducible refine gate_dst (N := 29) rfl ?_); refine box_event ?hg (N := 29) ?hd (cs := #[.int .u8 0, .int .u8 0, .string (⟨#[]⟩ : ByteArray)]) (t := 25) ?hr ?_; (case hd => rfl); (case hg => rfl); (case hr => first | (go_simp; done) | (go_simp; rfl)); intro gb208 hg w196 hbox hb; have n0_ := nB (by (with_reducible repeat first | apply bN | apply bD | apply bA); exact BK170.out) hb; have n1_ := nB (by (with_reducible repeat first | apply bN | apply bD | apply bA); exact BK176.out) hb; have n2_ := nB (by (with_reducible repeat first | apply bN | apply bD | apply bA); exact BK181.out) hb; have n3_ := nB (by (with_reducible repeat first | apply bN | apply bD | apply bA); exact BK192.out) hb; have n4_ := nB (by (with_reducible repeat first | apply bN | apply bD | apply bA); exact BK197.out) hb; have n5_ := nB (by (with_reducible repeat first | apply bN | apply bD | apply bA); exact BK202.out) hb; have n6_ := mkA (below_step (by repeat (first | (with_reducible first | exact HB.out | apply wA | apply wN | apply w1_ | refine wS ?_ (by assumption)) | exact HB.out)) hb); have n7_ := mkA (hbox); have n8_ := mkA ((by rw [hg]; exact (below_size (by repeat (first | (with_reducible first | exact HB.out | apply wA | apply wN | apply w1_ | refine wS ?_ (by assumption)) | exact HB.out))) : w.heap.size ≤ gb208)); have n9_ := mkA ((by rw [hg]; exact (below_size (by repeat (first | (with_reducible first | exact HB.out | apply wA | apply wN | apply w1_ | refine wS ?_ (by assumption)) | exact HB.out))) : w.heap.size ≤ gb208)); have n10_ := mkA ((by rw [hg]; exact Nat.ne_of_lt (blk_lt (g := gb170) (o := .cells #[.int .u8 a1_0, .int .u8 a1_1, .string a1_2] 25 (0, 0)) (by (with_reducible repeat first | apply bN | apply bD | apply bA); exact BK170.out)) : gb170 ≠ gb208)); have n11_ := mkA ((by rw [hg]; exact Nat.ne_of_gt (blk_lt (g := gb170) (o := .cells #[.int .u8 a1_0, .int .u8 a1_1, .string a1_2] 25 (0, 0)) (by (with_reducible repeat first | apply bN | apply bD | apply bA); exact BK170.out)) : gb208 ≠ gb170)); have n12_ := mkA ((by rw [hg]; exact Nat.ne_of_lt (blk_lt (g := gb176) (o := .cells #[.int .u8 t172, .int .u8 t173, .string t174] 25 (0, 0)) (by (with_reducible repeat first | apply bN | apply bD | apply bA); exact BK176.out)) : gb176 ≠ gb208)); have n13_ := mkA ((by rw [hg]; exact Nat.ne_of_gt (blk_lt (g := gb176) (o := .cells #[.int .u8 t172, .int .u8 t173, .string t174] 25 (0, 0)) (by (with_reducible repeat first | apply bN | apply bD | apply bA); exact BK176.out)) : gb208 ≠ gb176)); have n14_ := mkA ((by rw [hg]; exact Nat.ne_of_lt (blk_lt (g := gb181) (o := .cells #[.int .u8 t177, .int .u8 t178, .string t179] 25 (0, 0)) (by (with_reducible repeat first | apply bN | apply bD | apply bA); exact BK181.out)) : gb181 ≠ gb208)); have n15_ := mkA ((by rw [hg]; exact Nat.ne_of_gt (blk_lt (g := gb181) (o := .cells #[.int .u8 t177, .int .u8 t178, .string t179] 25 (0, 0)) (by (with_reducible repeat first | apply bN | apply bD | apply bA); exact BK181.out)) : gb208 ≠ gb181)); have n16_ := mkA ((by rw [hg]; exact Nat.ne_of_lt (blk_lt (g := gb192) (o := .cells #[.int .u8 t188, .int .u8 t189, .string t190] 25 (0, 0)) (by (with_reducible repeat first | apply bN | apply bD | apply bA); exact BK192.out)) : gb192 ≠ gb208)); have n17_ := mkA ((by rw [hg]; exact Nat.ne_of_gt (blk_lt (g := gb192) (o := .cells #[.int .u8 t188, .int .u8 t189, .string t190] 25 (0, 0)) (by (with_reducible repeat first | apply bN | apply bD | apply bA); exact BK192.out)) : gb208 ≠ gb192)); have n18_ := mkA ((by rw [hg]; exact Nat.ne_of_lt (blk_lt (g := gb197) (o := .cells #[.int .u8 t193, .int .u8 t194, .string t195] 25 (0, 0)) (by (with_reducible repeat first | apply bN | apply bD | apply bA); exact BK197.out)) : gb197 ≠ gb208)); have n19_ := mkA ((by rw [hg]; exact Nat.ne_of_gt (blk_lt (g := gb197) (o := .cells #[.int .u8 t193, .int .u8 t194, .string t195] 25 (0, 0)) (by (with_reducible repeat first | apply bN | apply bD | apply bA); exact BK197.out)) : gb208 ≠ gb197)); have n20_ := mkA ((by rw [hg]; exact Nat.ne_of_lt (blk_lt (g := gb202) (o := .cells #[.int .u8 t198, .int .u8 t199, .string t200] 25 (0, 0)) (by (with_reducible repeat first | apply bN | apply bD | apply bA); exact BK202.out)) : gb202 ≠ gb208)); have n21_ := mkA ((by rw [hg]; exact Nat.ne_of_gt (blk_lt (g := gb202) (o := .cells #[.int .u8 t198, .int .u8 t199, .string t200] 25 (0, 0)) (by (with_reducible repeat first | apply bN | apply bD | apply bA); exact BK202.out)) : gb208 ≠ gb202)); clear BK170; clear BK176; clear BK181; clear BK192; clear BK197; clear BK202; clear HB; have BK170 := n0_; have BK176 := n1_; have BK181 := n2_; have BK192 := n3_; have BK197 := n4_; have BK202 := n5_; have HB := n6_; have BK208 := n7_; have GW208 := n8_; have GE208 := n9_; have NB170_208 := n10_; have NB208_170 := n11_; have NB176_208 := n12_; have NB208_176 := n13_; have NB181_208 := n14_; have NB208_181 := n15_; have NB192_208 := n16_; have NB208_192 := n17_; have NB197_208 := n18_; have NB208_197 := n19_; have NB202_208 := n20_; have NB208_202 := n21_; clear n0_ n1_ n2_ n3_ n4_ n5_ n6_ n7_ n8_ n9_ n10_ n11_ n12_ n13_ n14_ n15_ n16_ n17_ n18_ n19_ n20_ n21_; clear hb hbox hg; have hnb197 := NB208_170.out; have hnc197 := NB170_208.out; have hnb198 := NB208_176.out; have hnc198 := NB176_208.out; have hnb199 := NB208_181.out; have hnc199 := NB181_208.out; have hnb200 := NB208_192.out; have hnc200 := NB192_208.out; have hnb201 := NB208_197.out; have hnc201 := NB197_208.out; have hnb202 := NB208_202.out; have hnc202 := NB202_208.out; have hcz203_0 : w196.cell? ⟨gb208, 0, none⟩ = some (.int .u8 0) := (blk_cell BK208.out 0).trans rfl; have hcz203_1 : w196.cell? ⟨gb208, 1, none⟩ = some (.int .u8 0) := (blk_cell BK208.out 1).trans rfl; have hcz203_2 : w196.cell? ⟨gb208, 2, none⟩ = some (.string (⟨#[]⟩ : ByteArray)) := (blk_cell BK208.out 2).trans rfl; have hfz203_0 := blk_frozen BK208.out 0; have hfz203_1 := blk_frozen BK208.out 1; have hfz203_2 := blk_frozen BK208.out 2))
           have n0_ : Aside0 ((((w196.setCell ⟨gb208, 0, none⟩ (.int .u8 t204)).setCell ⟨gb208, 1, none⟩ (.int .u8 t205)).setCell ⟨gb208, 2, none⟩ (.string t206)).heap[gb170]? = some (.cells #[.int .u8 a1_0, .int .u8 a1_1, .string a1_2] 25 (0, 0))) := ⟨by (with_reducible repeat first | apply bN | apply bD | apply bA); refine blk_far ?_ NB170_208.out _; (with_reducible repeat first | apply bN | apply bD | apply bA); refine blk_far ?_ NB170_208.out _; (with_reducible repeat first | apply bN | apply bD | apply bA); refine blk_far ?_ NB170_208.out _; (with_reducible repeat first | apply bN | apply bD | apply bA); exact BK170.out⟩
           have n1_ : Aside0 ((((w196.setCell ⟨gb208, 0, none⟩ (.int .u8 t204)).setCell ⟨gb208, 1, none⟩ (.int .u8 t205)).setCell ⟨gb208, 2, none⟩ (.string t206)).heap[gb176]? = some (.cells #[.int .u8 t172, .int .u8 t173, .string t174] 25 (0, 0))) := ⟨by (with_reducible repeat first | apply bN | apply bD | apply bA); refine blk_far ?_ NB176_208.out _; (with_reducible repeat first | apply bN | apply bD | apply bA); refine blk_far ?_ NB176_208.out _; (with_reducible repeat first | apply bN | apply bD | apply bA); refine blk_far ?_ NB176_208.out _; (with_reducible repeat first | apply bN | apply bD | apply bA); exact BK176.out⟩
           have n2_ : Aside0 ((((w196.setCell ⟨gb208, 0, none⟩ (.int .u8 t204)).setCell ⟨gb208, 1, none⟩ (.int .u8 t205)).setCell ⟨gb208, 2, none⟩ (.string t206)).heap[gb181]? = some (.cells #[.int .u8 t177, .int .u8 t178, .string t179] 25 (0, 0))) := ⟨by (with_reducible repeat first | apply bN | apply bD | apply bA); refine blk_far ?_ NB181_208.out _; (with_reducible repeat first | apply bN | apply bD | apply bA); refine blk_far ?_ NB181_208.out _; (with_reducible repeat first | apply bN | apply bD | apply bA); refine blk_far ?_ NB181_208.out _; (with_reducible repeat first | apply bN | apply bD | apply bA); exact BK181.out⟩
           have n3_ : Aside0 ((((w196.setCell ⟨gb208, 0, none⟩ (.int .u8 t204)).setCell ⟨gb208, 1, none⟩ (.int .u8 t205)).setCell ⟨gb208, 2, none⟩ (.string t206)).heap[gb192]? = some (.cells #[.int .u8 t188, .int .u8 t189, .string t190] 25 (0, 0))) := ⟨by (with_reducible repeat first | apply bN | apply bD | apply bA); refine blk_far ?_ NB192_208.out _; (with_reducible repeat first | apply bN | apply bD | apply bA); refine blk_far ?_ NB192_208.out _; (with_reducible repeat first | apply bN | apply bD | apply bA); refine blk_far ?_ NB192_208.out _; (with_reducible repeat first | apply bN | apply bD | apply bA); exact BK192.out⟩
           have n4_ : Aside0 ((((w196.setCell ⟨gb208, 0, none⟩ (.int .u8 t204)).setCell ⟨gb208, 1, none⟩ (.int .u8 t205)).setCell ⟨gb208, 2, none⟩ (.string t206)).heap[gb197]? = some (.cells #[.int .u8 t193, .int .u8 t194, .string t195] 25 (0, 0))) := ⟨by (with_reducible repeat first | apply bN | apply bD | apply bA); refine blk_far ?_ NB197_208.out _; (with_reducible repeat first | apply bN | apply bD | apply bA); refine blk_far ?_ NB197_208.out _; (with_reducible repeat first | apply bN | apply bD | apply bA); refine blk_far ?_ NB197_208.out _; (with_reducible repeat first | apply bN | apply bD | apply bA); exact BK197.out⟩
           have n5_ : Aside0 ((((w196.setCell ⟨gb208, 0, none⟩ (.int .u8 t204)).setCell ⟨gb208, 1, none⟩ (.int .u8 t205)).setCell ⟨gb208, 2, none⟩ (.string t206)).heap[gb202]? = some (.cells #[.int .u8 t198, .int .u8 t199, .string t200] 25 (0, 0))) := ⟨by (with_reducible repeat first | apply bN | apply bD | apply bA); refine blk_far ?_ NB202_208.out _; (with_reducible repeat first | apply bN | apply bD | apply bA); refine blk_far ?_ NB202_208.out _; (with_reducible repeat first | apply bN | apply bD | apply bA); refine blk_far ?_ NB202_208.out _; (with_reducible repeat first | apply bN | apply bD | apply bA); exact BK202.out⟩
           have n6_ : Aside0 ((((w196.setCell ⟨gb208, 0, none⟩ (.int .u8 t204)).setCell ⟨gb208, 1, none⟩ (.int .u8 t205)).setCell ⟨gb208, 2, none⟩ (.string t206)).heap[gb208]? = some (.cells #[.int .u8 t204, .int .u8 t205, .string t206] 25 (0, 0))) := ⟨by (with_reducible repeat first | apply bN | apply bD | apply bA); refine blk_put (cs := #[.int .u8 t204, .int .u8 t205, .string (⟨#[]⟩ : ByteArray)]) ?_ 2 _ rfl; (with_reducible repeat first | apply bN | apply bD | apply bA); refine blk_put (cs := #[.int .u8 t204, .int .u8 0, .string (⟨#[]⟩ : ByteArray)]) ?_ 1 _ rfl; (with_reducible repeat first | apply bN | apply bD | apply bA); refine blk_put (cs := #[.int .u8 0, .int .u8 0, .string (⟨#[]⟩ : ByteArray)]) ?_ 0 _ rfl; (with_reducible repeat first | apply bN | apply bD | apply bA); exact BK208.out⟩
           have n7_ : Aside0 (Below w.heap.size w (((w196.setCell ⟨gb208, 0, none⟩ (.int .u8 t204)).setCell ⟨gb208, 1, none⟩ (.int .u8 t205)).setCell ⟨gb208, 2, none⟩ (.string t206))) := ⟨by repeat (first | (with_reducible first | exact HB.out | apply wA | apply wN | apply w1_ | refine wS ?_ (by assumption)) | exact HB.out)⟩
           (try clear BK170)
           (try clear BK176)
           (try clear BK181)
           (try clear BK192)
           (try clear BK197)
           (try clear BK202)
           (try clear BK208)
           (try clear HB)
           generalize (((w196.setCell ⟨gb208, 0, none⟩ (.int .u8 t204)).setCell ⟨gb208, 1, none⟩ (.int .u8 t205)).setCell ⟨gb208, 2, none⟩ (.string t206)) = w204 at n0_ n1_ n2_ n3_ n4_ n5_ n6_ n7_ ⊢
           have BK170 := n0_
           have BK176 := n1_
           have BK181 := n2_
           have BK192 := n3_
           have BK197 := n4_
           have BK202 := n5_
           have BK208 := n6_
           have HB := n7_
           clear n0_ n1_ n2_ n3_ n4_ n5_ n6_ n7_
           have n0_ := mkA (blk_drew BK170.out)
           have n1_ := mkA (blk_drew BK176.out)
           have n2_ := mkA (blk_drew BK181.out)
           have n3_ := mkA (blk_drew BK192.out)
           have n4_ := mkA (blk_drew BK197.out)
           have n5_ := mkA (blk_drew BK202.out)
           have n6_ := mkA (blk_drew BK208.out)
           have n7_ := mkA (below_drew1 HB.out)
           clear BK170
           clear BK176
           clear BK181
           clear BK192
           clear BK197
           clear BK202
           clear BK208
           clear HB
           have BK170 := n0_
           have BK176 := n1_
           have BK181 := n2_
           have BK192 := n3_
           have BK197 := n4_
           have BK202 := n5_
           have BK208 := n6_
           have HB := n7_
           clear n0_ n1_ n2_ n3_ n4_ n5_ n6_ n7_
           refine start_ (n := 25) (S := fun w' => w'.cell? ⟨gb176, 0, none⟩ = some (.int .u8 t172) ∧ w'.cell? ⟨gb176, 1, none⟩ = some (.int .u8 t173) ∧ w'.cell? ⟨gb176, 2, none⟩ = some (.string t174) ∧ w'.cell? ⟨gb208, 0, none⟩ = some (.int .u8 t204) ∧ w'.cell? ⟨gb208, 1, none⟩ = some (.int .u8 t205) ∧ w'.cell? ⟨gb208, 2, none⟩ = some (.string t206) ∧ w'.cell? ⟨gb181, 0, none⟩ = some (.int .u8 t177) ∧ w'.cell? ⟨gb181, 1, none⟩ = some (.int .u8 t178) ∧ w'.cell? ⟨gb181, 2, none⟩ = some (.string t179)) (ds := []) #[false, false, false, false, false, false, false, false, false, false, false, false, false, false, false, false, false, false, false, false, false, false, false, false, false] (by kernel_rfl) rfl rfl ⟨(blk_cell BK176.out 0).trans rfl, (blk_cell BK176.out 1).trans rfl, (blk_cell BK176.out 2).trans rfl, (blk_cell BK208.out 0).trans rfl, (blk_cell BK208.out 1).trans rfl, (blk_cell BK208.out 2).trans rfl, (blk_cell BK181.out 0).trans rfl, (blk_cell BK181.out 1).trans rfl, (blk_cell BK181.out 2).trans rfl⟩ (fun hHeld => ?_); refine with_tabW halyardlaw11_RejectTells.tab20 halyardlaw11_RejectTells.bits20 (fun HT_ HW_ => ?_)
           generalize w204.drew = w205 at BK170 BK176 BK181 BK192 BK197 BK202 BK208 HB hHeld ⊢
           refine take_ (i := 0) (N := some 156) (v := ?_) (a' := ?_) #[true, false, false, false, false, false, false, false, false, false, false, false, false, false, false, false, false, false, false, false, false, false, false, false, false] rfl rfl (take_ofW HT_.out HW_.out (by kernel_rfl)) (fun _ _ _ h => h) (Or.inl ⟨by rfl, ?_⟩) hHeld ?_ ?_
           rotate_left
           ·rintro w' ⟨s0, s1, s2, s3, s4, s5, s6, s7, s8⟩
            go_simp
            with_reducible rfl
           rotate_left
           ·simp only [Act.put, sA, sB, sC, i64_w, i32_w]
            rfl
           refine take_ (i := 1) (N := some 157) (v := ?_) (a' := ?_) #[true, true, false, false, false, false, false, false, false, false, false, false, false, false, false, false, false, false, false, false, false, false, false, false, false] rfl rfl (take_ofW HT_.out HW_.out (by kernel_rfl)) (fun _ _ _ h => h) (Or.inl ⟨by rfl, ?_⟩) hHeld ?_ ?_
           rotate_left
           ·rintro w' ⟨s0, s1, s2, s3, s4, s5, s6, s7, s8⟩
            go_simp
            with_reducible rfl
           rotate_left
           ·simp only [Act.put, sA, sB, sC, i64_w, i32_w]
            rfl
           refine pure_ (i := 2) (N := some 158) (v := ?_) (a' := ?_) #[true, true, true, false, false, false, false, false, false, false, false, false, false, false, false, false, false, false, false, false, false, false, false, false, false] rfl rfl (any_of HT_.out (by kernel_rfl)) (fun _ _ _ h => h) (Or.inl ⟨by rfl, ?_⟩) ?_ ?_
           rotate_left
           ·intro w'
            go_simp
            with_reducible rfl
           rotate_left
           ·simp only [Act.put, sA, sB, sC, i64_w, i32_w]
            rfl
           refine pure_ (i := 3) (N := some 159) (v := ?_) (a' := ?_) #[true, true, true, true, false, false, false, false, false, false, false, false, false, false, false, false, false, false, false, false, false, false, false, false, false] rfl rfl (any_of HT_.out (by kernel_rfl)) (fun _ _ _ h => h) (Or.inl ⟨by rfl, ?_⟩) ?_ ?_
           rotate_left
           ·intro w'
            go_simp
            with_reducible rfl
           rotate_left
           ·simp only [Act.put, sA, sB, sC, i64_w, i32_w]
            rfl
           refine pure_ (i := 4) (N := some 160) (v := ?_) (a' := ?_) #[true, true, true, true, true, false, false, false, false, false, false, false, false, false, false, false, false, false, false, false, false, false, false, false, false] rfl rfl (any_of HT_.out (by kernel_rfl)) (fun _ _ _ h => h) (Or.inl ⟨by rfl, ?_⟩) ?_ ?_
           rotate_left
           ·intro w'
            go_simp
            with_reducible rfl
           rotate_left
           ·simp only [Act.put, sA, sB, sC, i64_w, i32_w]
            rfl
           refine pure_ (i := 5) (N := some 161) (v := ?_) (a' := ?_) #[true, true, true, true, true, true, false, false, false, false, false, false, false, false, false, false, false, false, false, false, false, false, false, false, false] rfl rfl (any_of HT_.out (by kernel_rfl)) (fun _ _ _ h => h) (Or.inl ⟨by rfl, ?_⟩) ?_ ?_
           rotate_left
           ·intro w'
            go_simp
            with_reducible rfl
           rotate_left
           ·simp only [Act.put, sA, sB, sC, i64_w, i32_w]
            rfl
           refine pure_ (i := 6) (N := some 162) (v := ?_) (a' := ?_) #[true, true, true, true, true, true, true, false, false, false, false, false, false, false, false, false, false, false, false, false, false, false, false, false, false] rfl rfl (any_of HT_.out (by kernel_rfl)) (fun _ _ _ h => h) (Or.inl ⟨by rfl, ?_⟩) ?_ ?_
           rotate_left
           ·intro w'
            go_simp
            with_reducible rfl
           rotate_left
           ·simp only [Act.put, sA, sB, sC, i64_w, i32_w]
            rfl
           refine pure_ (i := 7) (N := some 163) (v := ?_) (a' := ?_) #[true, true, true, true, true, true, true, true, false, false, false, false, false, false, false, false, false, false, false, false, false, false, false, false, false] rfl rfl (any_of HT_.out (by kernel_rfl)) (fun _ _ _ h => h) (Or.inl ⟨by rfl, ?_⟩) ?_ ?_
           rotate_left
           ·intro w'
            go_simp
            with_reducible rfl
           rotate_left
           ·simp only [Act.put, sA, sB, sC, i64_w, i32_w]
            rfl
           refine pure_ (i := 8) (N := some 164) (v := ?_) (a' := ?_) #[true, true, true, true, true, true, true, true, true, false, false, false, false, false, false, false, false, false, false, false, false, false, false, false, false] rfl rfl (any_of HT_.out (by kernel_rfl)) (fun _ _ _ h => h) (Or.inl ⟨by rfl, ?_⟩) ?_ ?_
           rotate_left
           ·intro w'
            go_simp
            with_reducible rfl
           rotate_left
           ·simp only [Act.put, sA, sB, sC, i64_w, i32_w]
            rfl
           refine pure_ (i := 10) (N := some 166) (v := ?_) (a' := ?_) #[true, true, true, true, true, true, true, true, true, false, true, false, false, false, false, false, false, false, false, false, false, false, false, false, false] rfl rfl (any_of HT_.out (by kernel_rfl)) (fun _ _ _ h => h) (Or.inl ⟨by rfl, ?_⟩) ?_ ?_
           rotate_left
           ·intro w'
            go_simp
            with_reducible rfl
           rotate_left
           ·simp only [Act.put, sA, sB, sC, i64_w, i32_w]
            rfl
           refine pure_ (i := 11) (N := some 167) (v := ?_) (a' := ?_) #[true, true, true, true, true, true, true, true, true, false, true, true, false, false, false, false, false, false, false, false, false, false, false, false, false] rfl rfl (any_of HT_.out (by kernel_rfl)) (fun _ _ _ h => h) (Or.inl ⟨by rfl, ?_⟩) ?_ ?_
           rotate_left
           ·intro w'
            go_simp
            with_reducible rfl
           rotate_left
           ·simp only [Act.put, sA, sB, sC, i64_w, i32_w]
            rfl
           refine pure_ (i := 12) (N := some 168) (v := ?_) (a' := ?_) #[true, true, true, true, true, true, true, true, true, false, true, true, true, false, false, false, false, false, false, false, false, false, false, false, false] rfl rfl (any_of HT_.out (by kernel_rfl)) (fun _ _ _ h => h) (Or.inl ⟨by rfl, ?_⟩) ?_ ?_
           rotate_left
           ·intro w'
            go_simp
            with_reducible rfl
           rotate_left
           ·simp only [Act.put, sA, sB, sC, i64_w, i32_w]
            rfl
           refine pure_ (i := 13) (N := some 169) (v := ?_) (a' := ?_) #[true, true, true, true, true, true, true, true, true, false, true, true, true, true, false, false, false, false, false, false, false, false, false, false, false] rfl rfl (any_of HT_.out (by kernel_rfl)) (fun _ _ _ h => h) (Or.inl ⟨by rfl, ?_⟩) ?_ ?_
           rotate_left
           ·intro w'
            go_simp
            with_reducible rfl
           rotate_left
           ·simp only [Act.put, sA, sB, sC, i64_w, i32_w]
            rfl
           refine take_ (i := 9) (N := some 165) (v := ?_) (a' := ?_) #[true, true, true, true, true, true, true, true, true, true, true, true, true, true, false, false, false, false, false, false, false, false, false, false, false] rfl rfl (take_ofW HT_.out HW_.out (by kernel_rfl)) (fun _ _ _ h => h) (Or.inl ⟨by rfl, ?_⟩) hHeld ?_ ?_
           rotate_left
           ·rintro w' ⟨s0, s1, s2, s3, s4, s5, s6, s7, s8⟩
            go_simp
            with_reducible rfl
           rotate_left
           ·simp only [Act.put, sA, sB, sC, i64_w, i32_w]
            rfl
           refine one_ (i := 14) (N := some 170) #[true, true, true, true, true, true, true, true, true, true, true, true, true, true, true, false, false, false, false, false, false, false, false, false, false] rfl rfl (one_of HT_.out (by kernel_rfl)) (by decide) (fun K hK => ?_)
           refine goes_ Try.func44 (by kernel_rfl) rfl #[.int .u8 a0, .int .u16 a2, .string a3, .int .i64 a4] (by rfl) rfl rfl (by (try simp only [List.map_toArray, List.map_cons, List.map_nil]); first | done | rfl | (simp only [List.length_drop, List.length_take]; rfl)) ?_
           with_reducible refine (halyardref11_Proto.calls a0 a2 a3 a4 t209 t210 t211 _ A148.out).mono ?_
           rintro e w206 ⟨rfl, hb⟩
           refine ⟨_, rfl, ?_⟩
           have n0_ := nB (by (with_reducible repeat first | apply bN | apply bD | apply bA); exact BK170.out) hb
           have n1_ := nB (by (with_reducible repeat first | apply bN | apply bD | apply bA); exact BK176.out) hb
           have n2_ := nB (by (with_reducible repeat first | apply bN | apply bD | apply bA); exact BK181.out) hb
           have n3_ := nB (by (with_reducible repeat first | apply bN | apply bD | apply bA); exact BK192.out) hb
           have n4_ := nB (by (with_reducible repeat first | apply bN | apply bD | apply bA); exact BK197.out) hb
           have n5_ := nB (by (with_reducible repeat first | apply bN | apply bD | apply bA); exact BK202.out) hb
           have n6_ := nB (by (with_reducible repeat first | apply bN | apply bD | apply bA); exact BK208.out) hb
           have n7_ := mkA (below_step (by repeat (first | (with_reducible first | exact HB.out | apply wA | apply wN | apply w1_ | refine wS ?_ (by assumption)) | exact HB.out)) hb)
           clear BK170
           clear BK176
           clear BK181
           clear BK192
           clear BK197
           clear BK202
           clear BK208
           clear HB
           have BK170 := n0_
           have BK176 := n1_
           have BK181 := n2_
           have BK192 := n3_
           have BK197 := n4_
           have BK202 := n5_
           have BK208 := n6_
           have HB := n7_
           clear n0_ n1_ n2_ n3_ n4_ n5_ n6_ n7_
           (try clear hb)
           (try clear hb2)
           (try clear hk)
           (try clear hi)
           refine hK.out _ _ ⟨(blk_cell BK176.out 0).trans rfl, (blk_cell BK176.out 1).trans rfl, (blk_cell BK176.out 2).trans rfl, (blk_cell BK208.out 0).trans rfl, (blk_cell BK208.out 1).trans rfl, (blk_cell BK208.out 2).trans rfl, (blk_cell BK181.out 0).trans rfl, (blk_cell BK181.out 1).trans rfl, (blk_cell BK181.out 2).trans rfl⟩ (fun hHeld => ?_)
           clear hK K
           refine norm_ (a' := ?_) ?_ ?_
           rotate_left
           ·show Act.put _ (some 170) _ = _
            simp only [Act.put, sA, sB, sC, i64_w, i32_w]
            rfl
           refine pure_ (i := 15) (N := some 171) (v := ?_) (a' := ?_) #[true, true, true, true, true, true, true, true, true, true, true, true, true, true, true, true, false, false, false, false, false, false, false, false, false] rfl rfl (any_of HT_.out (by kernel_rfl)) (fun _ _ _ h => h) (Or.inl ⟨by rfl, ?_⟩) ?_ ?_
           rotate_left
           ·intro w'
            go_simp
            with_reducible rfl
           rotate_left
           ·simp only [Act.put, sA, sB, sC, i64_w, i32_w]
            rfl
           refine pure_ (i := 16) (N := some 172) (v := ?_) (a' := ?_) #[true, true, true, true, true, true, true, true, true, true, true, true, true, true, true, true, true, false, false, false, false, false, false, false, false] rfl rfl (any_of HT_.out (by kernel_rfl)) (fun _ _ _ h => h) (Or.inl ⟨by rfl, ?_⟩) ?_ ?_
           rotate_left
           ·intro w'
            go_simp
            with_reducible rfl
           rotate_left
           ·simp only [Act.put, sA, sB, sC, i64_w, i32_w]
            rfl
           refine pure_ (i := 17) (N := some 173) (v := ?_) (a' := ?_) #[true, true, true, true, true, true, true, true, true, true, true, true, true, true, true, true, true, true, false, false, false, false, false, false, false] rfl rfl (any_of HT_.out (by kernel_rfl)) (fun _ _ _ h => h) (Or.inl ⟨by rfl, ?_⟩) ?_ ?_
           rotate_left
           ·intro w'
            go_simp
            with_reducible rfl
           rotate_left
           ·simp only [Act.put, sA, sB, sC, i64_w, i32_w]
            rfl
           refine pure_ (i := 18) (N := some 174) (v := undef) (a' := ?_) #[true, true, true, true, true, true, true, true, true, true, true, true, true, true, true, true, true, true, true, false, false, false, false, false, false] rfl rfl (any_of HT_.out (by kernel_rfl)) (fun _ _ _ h => h) (Or.inr ⟨by rfl, rfl⟩) ?_ ?_
           rotate_left
           ·simp only [Act.put, sA, sB, sC, i64_w, i32_w]
            rfl
           refine pure_ (i := 19) (N := some 175) (v := undef) (a' := ?_) #[true, true, true, true, true, true, true, true, true, true, true, true, true, true, true, true, true, true, true, true, false, false, false, false, false] rfl rfl (any_of HT_.out (by kernel_rfl)) (fun _ _ _ h => h) (Or.inr ⟨by rfl, rfl⟩) ?_ ?_
           rotate_left
           ·simp only [Act.put, sA, sB, sC, i64_w, i32_w]
            rfl
           refine pure_ (i := 20) (N := some 176) (v := ?_) (a' := ?_) #[true, true, true, true, true, true, true, true, true, true, true, true, true, true, true, true, true, true, true, true, true, false, false, false, false] rfl rfl (any_of HT_.out (by kernel_rfl)) (fun _ _ _ h => h) (Or.inl ⟨by rfl, ?_⟩) ?_ ?_
           rotate_left
           ·intro w'
            go_simp
            with_reducible rfl
           rotate_left
           ·simp only [Act.put, sA, sB, sC, i64_w, i32_w]
            rfl
           refine pure_ (i := 21) (N := some 177) (v := ?_) (a' := ?_) #[true, true, true, true, true, true, true, true, true, true, true, true, true, true, true, true, true, true, true, true, true, true, false, false, false] rfl rfl (any_of HT_.out (by kernel_rfl)) (fun _ _ _ h => h) (Or.inl ⟨by rfl, ?_⟩) ?_ ?_
           rotate_left
           ·intro w'
            go_simp
            with_reducible rfl
           rotate_left
           ·simp only [Act.put, sA, sB, sC, i64_w, i32_w]
            rfl
           refine pure_ (i := 22) (N := some 178) (v := undef) (a' := ?_) #[true, true, true, true, true, true, true, true, true, true, true, true, true, true, true, true, true, true, true, true, true, true, true, false, false] rfl rfl (any_of HT_.out (by kernel_rfl)) (fun _ _ _ h => h) (Or.inr ⟨by rfl, rfl⟩) ?_ ?_
           rotate_left
           ·simp only [Act.put, sA, sB, sC, i64_w, i32_w]
            rfl
           refine pure_ (i := 23) (N := some 179) (v := ?_) (a' := ?_) #[true, true, true, true, true, true, true, true, true, true, true, true, true, true, true, true, true, true, true, true, true, true, true, true, false] rfl rfl (any_of HT_.out (by kernel_rfl)) (fun _ _ _ h => h) (Or.inl ⟨by rfl, ?_⟩) ?_ ?_
           rotate_left
           ·intro w'
            go_simp
            with_reducible rfl
           rotate_left
           ·simp only [Act.put, sA, sB, sC, i64_w, i32_w]
            rfl
           refine pure_ (i := 24) (N := some 12) (v := ?_) (a' := ?_) #[true, true, true, true, true, true, true, true, true, true, true, true, true, true, true, true, true, true, true, true, true, true, true, true, true] rfl rfl (any_of HT_.out (by kernel_rfl)) (fun _ _ _ h => h) (Or.inl ⟨by rfl, ?_⟩) ?_ ?_
           rotate_left
           ·intro w'
            go_simp
            with_reducible rfl
           rotate_left
           ·simp only [Act.put, sA, sB, sC, i64_w, i32_w]
            rfl
           refine done_ (done_of HT_.out (by kernel_rfl)) ?_
           try go_wp2
           go_ret
           exact ⟨by first | rfl | (simp <;> rfl) | (simp [*] <;> rfl), by repeat (first | (with_reducible first | exact HB.out | apply wA | apply wN | apply w1_ | refine wS ?_ (by assumption)) | exact HB.out)⟩
         ·rw [if_neg c147] at H
          have c147b0 : (t175 == t207) = false := beq_eq_false_iff_ne.mpr c147
          have c147b1 : (t175 != t207) = true := bne_iff_ne.mpr c147
          obtain rfl := Option.some.inj H
          try go_wp2_with (first | ((with_reducible refine gate_callee (f := 42) rfl ?_); refine goesL_ (some 128) rfl rfl Try.func42 (by kernel_rfl) rfl #[.int .i64 a4] rfl (by (try simp only [List.map_toArray, List.map_cons, List.map_nil]); first | done | rfl | (simp only [List.length_drop, List.length_take]; rfl)) ?_; (with_reducible refine (halyardref11_May.calls a4 true _ A143.out).mono ?_); rintro e w' ⟨rfl, ⟨nd, rfl⟩⟩; refine ⟨_, rfl, ?_⟩; (try (rw [drewN_self wc]; generalize hq_ : World.drewN wc _ = wc; have n0_ : Aside0 (wc.heap[gb170]? = some (.cells #[.int .u8 a1_0, .int .u8 a1_1, .string a1_2] 25 (0, 0))) := ⟨by rw [← hq_]; exact (by (with_reducible repeat first | apply bN | apply bD | apply bA); exact BK170.out)⟩; have n1_ : Aside0 (wc.heap[gb176]? = some (.cells #[.int .u8 t172, .int .u8 t173, .string t174] 25 (0, 0))) := ⟨by rw [← hq_]; exact (by (with_reducible repeat first | apply bN | apply bD | apply bA); exact BK176.out)⟩; have n2_ : Aside0 (wc.heap[gb181]? = some (.cells #[.int .u8 t177, .int .u8 t178, .string t179] 25 (0, 0))) := ⟨by rw [← hq_]; exact (by (with_reducible repeat first | apply bN | apply bD | apply bA); exact BK181.out)⟩; have n3_ : Aside0 (wc.heap[gb192]? = some (.cells #[.int .u8 t188, .int .u8 t189, .string t190] 25 (0, 0))) := ⟨by rw [← hq_]; exact (by (with_reducible repeat first | apply bN | apply bD | apply bA); exact BK192.out)⟩; have n4_ : Aside0 (wc.heap[gb197]? = some (.cells #[.int .u8 t193, .int .u8 t194, .string t195] 25 (0, 0))) := ⟨by rw [← hq_]; exact (by (with_reducible repeat first | apply bN | apply bD | apply bA); exact BK197.out)⟩; have n5_ : Aside0 (wc.heap[gb202]? = some (.cells #[.int .u8 t198, .int .u8 t199, .string t200] 25 (0, 0))) := ⟨by rw [← hq_]; exact (by (with_reducible repeat first | apply bN | apply bD | apply bA); exact BK202.out)⟩; have n6_ : Aside0 (Below w.heap.size w wc) := ⟨by rw [← hq_]; exact (by repeat (first | (with_reducible first | exact HB.out | apply wA | apply wN | apply w1_ | refine wS ?_ (by assumption)) | exact HB.out))⟩; clear BK170 BK176 BK181 BK192 BK197 BK202 HB hq_; have BK170 := n0_; have BK176 := n1_; have BK181 := n2_; have BK192 := n3_; have BK197 := n4_; have BK202 := n5_; have HB := n6_; clear n0_ n1_ n2_ n3_ n4_ n5_ n6_)); have hnb207 := NB170_176.out; have hnc207 := NB176_170.out; have hnb208 := NB170_181.out; have hnc208 := NB181_170.out; have hnb209 := NB170_192.out; have hnc209 := NB192_170.out; have hnb210 := NB170_197.out; have hnc210 := NB197_170.out; have hnb211 := NB170_202.out; have hnc211 := NB202_170.out; have hcz212_0 : wc.cell? ⟨gb170, 0, none⟩ = some (.int .u8 a1_0) := (blk_cell BK170.out 0).trans rfl; have hcz212_1 : wc.cell? ⟨gb170, 1, none⟩ = some (.int .u8 a1_1) := (blk_cell BK170.out 1).trans rfl; have hcz212_2 : wc.cell? ⟨gb170, 2, none⟩ = some (.string a1_2) := (blk_cell BK170.out 2).trans rfl; have hfz212_0 := blk_frozen BK170.out 0; have hfz212_1 := blk_frozen BK170.out 1; have hfz212_2 := blk_frozen BK170.out 2) | ((with_reducible refine gate_callee (f := 43) rfl ?_); refine goesL_ (some 153) rfl rfl Try.func43 (by kernel_rfl) rfl #[.int .u8 a0, .agg #[.int .u8 a1_0, .int .u8 a1_1, .string a1_2], .int .i64 a4] rfl (by (try simp only [List.map_toArray, List.map_cons, List.map_nil]); first | done | rfl | (simp only [List.length_drop, List.length_take]; rfl)) ?_; (with_reducible refine (halyardref11_Code.calls a0 a1_0 a1_1 a1_2 a4 t204 t205 t206 t207 _ A145.out).mono ?_); rintro e w213 ⟨rfl, hb⟩; refine ⟨_, rfl, ?_⟩; have n0_ := nB (by (with_reducible repeat first | apply bN | apply bD | apply bA); exact BK170.out) hb; have n1_ := nB (by (with_reducible repeat first | apply bN | apply bD | apply bA); exact BK176.out) hb; have n2_ := nB (by (with_reducible repeat first | apply bN | apply bD | apply bA); exact BK181.out) hb; have n3_ := nB (by (with_reducible repeat first | apply bN | apply bD | apply bA); exact BK192.out) hb; have n4_ := nB (by (with_reducible repeat first | apply bN | apply bD | apply bA); exact BK197.out) hb; have n5_ := nB (by (with_reducible repeat first | apply bN | apply bD | apply bA); exact BK202.out) hb; have n6_ := mkA (below_step (by repeat (first | (with_reducible first | exact HB.out | apply wA | apply wN | apply w1_ | refine wS ?_ (by assumption)) | exact HB.out)) hb); clear BK170; clear BK176; clear BK181; clear BK192; clear BK197; clear BK202; clear HB; have BK170 := n0_; have BK176 := n1_; have BK181 := n2_; have BK192 := n3_; have BK197 := n4_; have BK202 := n5_; have HB := n6_; clear n0_ n1_ n2_ n3_ n4_ n5_ n6_; (try clear hb); (try clear hb2); (try clear hk); (try clear hi)) | ((with_reducible refine gate_dst (N := 29) rfl ?_); refine box_event ?hg (N := 29) ?hd (cs := #[.int .u8 0, .int .u8 0, .string (⟨#[]⟩ : ByteArray)]) (t := 25) ?hr ?_; (case hd => rfl); (case hg => rfl); (case hr => first | (go_simp; done) | (go_simp; rfl)); intro gb208 hg w214 hbox hb; have n0_ := nB (by (with_reducible repeat first | apply bN | apply bD | apply bA); exact BK170.out) hb; have n1_ := nB (by (with_reducible repeat first | apply bN | apply bD | apply bA); exact BK176.out) hb; have n2_ := nB (by (with_reducible repeat first | apply bN | apply bD | apply bA); exact BK181.out) hb; have n3_ := nB (by (with_reducible repeat first | apply bN | apply bD | apply bA); exact BK192.out) hb; have n4_ := nB (by (with_reducible repeat first | apply bN | apply bD | apply bA); exact BK197.out) hb; have n5_ := nB (by (with_reducible repeat first | apply bN | apply bD | apply bA); exact BK202.out) hb; have n6_ := mkA (below_step (by repeat (first | (with_reducible first | exact HB.out | apply wA | apply wN | apply w1_ | refine wS ?_ (by assumption)) | exact HB.out)) hb); have n7_ := mkA (hbox); have n8_ := mkA ((by rw [hg]; exact (below_size (by repeat (first | (with_reducible first | exact HB.out | apply wA | apply wN | apply w1_ | refine wS ?_ (by assumption)) | exact HB.out))) : w.heap.size ≤ gb208)); have n9_ := mkA ((by rw [hg]; exact (below_size (by repeat (first | (with_reducible first | exact HB.out | apply wA | apply wN | apply w1_ | refine wS ?_ (by assumption)) | exact HB.out))) : w.heap.size ≤ gb208)); have n10_ := mkA ((by rw [hg]; exact Nat.ne_of_lt (blk_lt (g := gb170) (o := .cells #[.int .u8 a1_0, .int .u8 a1_1, .string a1_2] 25 (0, 0)) (by (with_reducible repeat first | apply bN | apply bD | apply bA); exact BK170.out)) : gb170 ≠ gb208)); have n11_ := mkA ((by rw [hg]; exact Nat.ne_of_gt (blk_lt (g := gb170) (o := .cells #[.int .u8 a1_0, .int .u8 a1_1, .string a1_2] 25 (0, 0)) (by (with_reducible repeat first | apply bN | apply bD | apply bA); exact BK170.out)) : gb208 ≠ gb170)); have n12_ := mkA ((by rw [hg]; exact Nat.ne_of_lt (blk_lt (g := gb176) (o := .cells #[.int .u8 t172, .int .u8 t173, .string t174] 25 (0, 0)) (by (with_reducible repeat first | apply bN | apply bD | apply bA); exact BK176.out)) : gb176 ≠ gb208)); have n13_ := mkA ((by rw [hg]; exact Nat.ne_of_gt (blk_lt (g := gb176) (o := .cells #[.int .u8 t172, .int .u8 t173, .string t174] 25 (0, 0)) (by (with_reducible repeat first | apply bN | apply bD | apply bA); exact BK176.out)) : gb208 ≠ gb176)); have n14_ := mkA ((by rw [hg]; exact Nat.ne_of_lt (blk_lt (g := gb181) (o := .cells #[.int .u8 t177, .int .u8 t178, .string t179] 25 (0, 0)) (by (with_reducible repeat first | apply bN | apply bD | apply bA); exact BK181.out)) : gb181 ≠ gb208)); have n15_ := mkA ((by rw [hg]; exact Nat.ne_of_gt (blk_lt (g := gb181) (o := .cells #[.int .u8 t177, .int .u8 t178, .string t179] 25 (0, 0)) (by (with_reducible repeat first | apply bN | apply bD | apply bA); exact BK181.out)) : gb208 ≠ gb181)); have n16_ := mkA ((by rw [hg]; exact Nat.ne_of_lt (blk_lt (g := gb192) (o := .cells #[.int .u8 t188, .int .u8 t189, .string t190] 25 (0, 0)) (by (with_reducible repeat first | apply bN | apply bD | apply bA); exact BK192.out)) : gb192 ≠ gb208)); have n17_ := mkA ((by rw [hg]; exact Nat.ne_of_gt (blk_lt (g := gb192) (o := .cells #[.int .u8 t188, .int .u8 t189, .string t190] 25 (0, 0)) (by (with_reducible repeat first | apply bN | apply bD | apply bA); exact BK192.out)) : gb208 ≠ gb192)); have n18_ := mkA ((by rw [hg]; exact Nat.ne_of_lt (blk_lt (g := gb197) (o := .cells #[.int .u8 t193, .int .u8 t194, .string t195] 25 (0, 0)) (by (with_reducible repeat first | apply bN | apply bD | apply bA); exact BK197.out)) : gb197 ≠ gb208)); have n19_ := mkA ((by rw [hg]; exact Nat.ne_of_gt (blk_lt (g := gb197) (o := .cells #[.int .u8 t193, .int .u8 t194, .string t195] 25 (0, 0)) (by (with_reducible repeat first | apply bN | apply bD | apply bA); exact BK197.out)) : gb208 ≠ gb197)); have n20_ := mkA ((by rw [hg]; exact Nat.ne_of_lt (blk_lt (g := gb202) (o := .cells #[.int .u8 t198, .int .u8 t199, .string t200] 25 (0, 0)) (by (with_reducible repeat first | apply bN | apply bD | apply bA); exact BK202.out)) : gb202 ≠ gb208)); have n21_ := mkA ((by rw [hg]; exact Nat.ne_of_gt (blk_lt (g := gb202) (o := .cells #[.int .u8 t198, .int .u8 t199, .string t200] 25 (0, 0)) (by (with_reducible repeat first | apply bN | apply bD | apply bA); exact BK202.out)) : gb208 ≠ gb202)); clear BK170; clear BK176; clear BK181; clear BK192; clear BK197; clear BK202; clear HB; have BK170 := n0_; have BK176 := n1_; have BK181 := n2_; have BK192 := n3_; have BK197 := n4_; have BK202 := n5_; have HB := n6_; have BK208 := n7_; have GW208 := n8_; have GE208 := n9_; have NB170_208 := n10_; have NB208_170 := n11_; have NB176_208 := n12_; have NB208_176 := n13_; have NB181_208 := n14_; have NB208_181 := n15_; have NB192_208 := n16_; have NB208_192 := n17_; have NB197_208 := n18_; have NB208_197 := n19_; have NB202_208 := n20_; have NB208_202 := n21_; clear n0_ n1_ n2_ n3_ n4_ n5_ n6_ n7_ n8_ n9_ n10_ n11_ n12_ n13_ n14_ n15_ n16_ n17_ n18_ n19_ n20_ n21_; clear hb hbox hg; have hnb215 := NB208_170.out; have hnc215 := NB170_208.out; have hnb216 := NB208_176.out; have hnc216 := NB176_208.out; have hnb217 := NB208_181.out; have hnc217 := NB181_208.out; have hnb218 := NB208_192.out; have hnc218 := NB192_208.out; have hnb219 := NB208_197.out; have hnc219 := NB197_208.out; have hnb220 := NB208_202.out; have hnc220 := NB202_208.out; have hcz221_0 : w214.cell? ⟨gb208, 0, none⟩ = some (.int .u8 0) := (blk_cell BK208.out 0).trans rfl; have hcz221_1 : w214.cell? ⟨gb208, 1, none⟩ = some (.int .u8 0) := (blk_cell BK208.out 1).trans rfl; have hcz221_2 : w214.cell? ⟨gb208, 2, none⟩ = some (.string (⟨#[]⟩ : ByteArray)) := (blk_cell BK208.out 2).trans rfl; have hfz221_0 := blk_frozen BK208.out 0; have hfz221_1 := blk_frozen BK208.out 1; have hfz221_2 := blk_frozen BK208.out 2))
          have n0_ : Aside0 ((((w214.setCell ⟨gb208, 0, none⟩ (.int .u8 t204)).setCell ⟨gb208, 1, none⟩ (.int .u8 t205)).setCell ⟨gb208, 2, none⟩ (.string t206)).heap[gb170]? = some (.cells #[.int .u8 a1_0, .int .u8 a1_1, .string a1_2] 25 (0, 0))) := ⟨by (with_reducible repeat first | apply bN | apply bD | apply bA); refine blk_far ?_ NB170_208.out _; (with_reducible repeat first | apply bN | apply bD | apply bA); refine blk_far ?_ NB170_208.out _; (with_reducible repeat first | apply bN | apply bD | apply bA); refine blk_far ?_ NB170_208.out _; (with_reducible repeat first | apply bN | apply bD | apply bA); exact BK170.out⟩
          have n1_ : Aside0 ((((w214.setCell ⟨gb208, 0, none⟩ (.int .u8 t204)).setCell ⟨gb208, 1, none⟩ (.int .u8 t205)).setCell ⟨gb208, 2, none⟩ (.string t206)).heap[gb176]? = some (.cells #[.int .u8 t172, .int .u8 t173, .string t174] 25 (0, 0))) := ⟨by (with_reducible repeat first | apply bN | apply bD | apply bA); refine blk_far ?_ NB176_208.out _; (with_reducible repeat first | apply bN | apply bD | apply bA); refine blk_far ?_ NB176_208.out _; (with_reducible repeat first | apply bN | apply bD | apply bA); refine blk_far ?_ NB176_208.out _; (with_reducible repeat first | apply bN | apply bD | apply bA); exact BK176.out⟩
          have n2_ : Aside0 ((((w214.setCell ⟨gb208, 0, none⟩ (.int .u8 t204)).setCell ⟨gb208, 1, none⟩ (.int .u8 t205)).setCell ⟨gb208, 2, none⟩ (.string t206)).heap[gb181]? = some (.cells #[.int .u8 t177, .int .u8 t178, .string t179] 25 (0, 0))) := ⟨by (with_reducible repeat first | apply bN | apply bD | apply bA); refine blk_far ?_ NB181_208.out _; (with_reducible repeat first | apply bN | apply bD | apply bA); refine blk_far ?_ NB181_208.out _; (with_reducible repeat first | apply bN | apply bD | apply bA); refine blk_far ?_ NB181_208.out _; (with_reducible repeat first | apply bN | apply bD | apply bA); exact BK181.out⟩
          have n3_ : Aside0 ((((w214.setCell ⟨gb208, 0, none⟩ (.int .u8 t204)).setCell ⟨gb208, 1, none⟩ (.int .u8 t205)).setCell ⟨gb208, 2, none⟩ (.string t206)).heap[gb192]? = some (.cells #[.int .u8 t188, .int .u8 t189, .string t190] 25 (0, 0))) := ⟨by (with_reducible repeat first | apply bN | apply bD | apply bA); refine blk_far ?_ NB192_208.out _; (with_reducible repeat first | apply bN | apply bD | apply bA); refine blk_far ?_ NB192_208.out _; (with_reducible repeat first | apply bN | apply bD | apply bA); refine blk_far ?_ NB192_208.out _; (with_reducible repeat first | apply bN | apply bD | apply bA); exact BK192.out⟩
          have n4_ : Aside0 ((((w214.setCell ⟨gb208, 0, none⟩ (.int .u8 t204)).setCell ⟨gb208, 1, none⟩ (.int .u8 t205)).setCell ⟨gb208, 2, none⟩ (.string t206)).heap[gb197]? = some (.cells #[.int .u8 t193, .int .u8 t194, .string t195] 25 (0, 0))) := ⟨by (with_reducible repeat first | apply bN | apply bD | apply bA); refine blk_far ?_ NB197_208.out _; (with_reducible repeat first | apply bN | apply bD | apply bA); refine blk_far ?_ NB197_208.out _; (with_reducible repeat first | apply bN | apply bD | apply bA); refine blk_far ?_ NB197_208.out _; (with_reducible repeat first | apply bN | apply bD | apply bA); exact BK197.out⟩
          have n5_ : Aside0 ((((w214.setCell ⟨gb208, 0, none⟩ (.int .u8 t204)).setCell ⟨gb208, 1, none⟩ (.int .u8 t205)).setCell ⟨gb208, 2, none⟩ (.string t206)).heap[gb202]? = some (.cells #[.int .u8 t198, .int .u8 t199, .string t200] 25 (0, 0))) := ⟨by (with_reducible repeat first | apply bN | apply bD | apply bA); refine blk_far ?_ NB202_208.out _; (with_reducible repeat first | apply bN | apply bD | apply bA); refine blk_far ?_ NB202_208.out _; (with_reducible repeat first | apply bN | apply bD | apply bA); refine blk_far ?_ NB202_208.out _; (with_reducible repeat first | apply bN | apply bD | apply bA); exact BK202.out⟩
          have n6_ : Aside0 ((((w214.setCell ⟨gb208, 0, none⟩ (.int .u8 t204)).setCell ⟨gb208, 1, none⟩ (.int .u8 t205)).setCell ⟨gb208, 2, none⟩ (.string t206)).heap[gb208]? = some (.cells #[.int .u8 t204, .int .u8 t205, .string t206] 25 (0, 0))) := ⟨by (with_reducible repeat first | apply bN | apply bD | apply bA); refine blk_put (cs := #[.int .u8 t204, .int .u8 t205, .string (⟨#[]⟩ : ByteArray)]) ?_ 2 _ rfl; (with_reducible repeat first | apply bN | apply bD | apply bA); refine blk_put (cs := #[.int .u8 t204, .int .u8 0, .string (⟨#[]⟩ : ByteArray)]) ?_ 1 _ rfl; (with_reducible repeat first | apply bN | apply bD | apply bA); refine blk_put (cs := #[.int .u8 0, .int .u8 0, .string (⟨#[]⟩ : ByteArray)]) ?_ 0 _ rfl; (with_reducible repeat first | apply bN | apply bD | apply bA); exact BK208.out⟩
          have n7_ : Aside0 (Below w.heap.size w (((w214.setCell ⟨gb208, 0, none⟩ (.int .u8 t204)).setCell ⟨gb208, 1, none⟩ (.int .u8 t205)).setCell ⟨gb208, 2, none⟩ (.string t206))) := ⟨by repeat (first | (with_reducible first | exact HB.out | apply wA | apply wN | apply w1_ | refine wS ?_ (by assumption)) | exact HB.out)⟩
          (try clear BK170)
          (try clear BK176)
          (try clear BK181)
          (try clear BK192)
          (try clear BK197)
          (try clear BK202)
          (try clear BK208)
          (try clear HB)
          generalize (((w214.setCell ⟨gb208, 0, none⟩ (.int .u8 t204)).setCell ⟨gb208, 1, none⟩ (.int .u8 t205)).setCell ⟨gb208, 2, none⟩ (.string t206)) = w222 at n0_ n1_ n2_ n3_ n4_ n5_ n6_ n7_ ⊢
          have BK170 := n0_
          have BK176 := n1_
          have BK181 := n2_
          have BK192 := n3_
          have BK197 := n4_
          have BK202 := n5_
          have BK208 := n6_
          have HB := n7_
          clear n0_ n1_ n2_ n3_ n4_ n5_ n6_ n7_
          have n0_ := mkA (blk_drew BK170.out)
          have n1_ := mkA (blk_drew BK176.out)
          have n2_ := mkA (blk_drew BK181.out)
          have n3_ := mkA (blk_drew BK192.out)
          have n4_ := mkA (blk_drew BK197.out)
          have n5_ := mkA (blk_drew BK202.out)
          have n6_ := mkA (blk_drew BK208.out)
          have n7_ := mkA (below_drew1 HB.out)
          clear BK170
          clear BK176
          clear BK181
          clear BK192
          clear BK197
          clear BK202
          clear BK208
          clear HB
          have BK170 := n0_
          have BK176 := n1_
          have BK181 := n2_
          have BK192 := n3_
          have BK197 := n4_
          have BK202 := n5_
          have BK208 := n6_
          have HB := n7_
          clear n0_ n1_ n2_ n3_ n4_ n5_ n6_ n7_
          refine start_ (n := 25) (S := fun w' => w'.cell? ⟨gb176, 0, none⟩ = some (.int .u8 t172) ∧ w'.cell? ⟨gb176, 1, none⟩ = some (.int .u8 t173) ∧ w'.cell? ⟨gb176, 2, none⟩ = some (.string t174) ∧ w'.cell? ⟨gb208, 0, none⟩ = some (.int .u8 t204) ∧ w'.cell? ⟨gb208, 1, none⟩ = some (.int .u8 t205) ∧ w'.cell? ⟨gb208, 2, none⟩ = some (.string t206)) (ds := []) #[false, false, false, false, false, false, false, false, false, false, false, false, false, false, false, false, false, false, false, false, false, false, false, false, false] (by kernel_rfl) rfl rfl ⟨(blk_cell BK176.out 0).trans rfl, (blk_cell BK176.out 1).trans rfl, (blk_cell BK176.out 2).trans rfl, (blk_cell BK208.out 0).trans rfl, (blk_cell BK208.out 1).trans rfl, (blk_cell BK208.out 2).trans rfl⟩ (fun hHeld => ?_); refine with_tabW halyardlaw11_RejectTells.tab20 halyardlaw11_RejectTells.bits20 (fun HT_ HW_ => ?_)
          generalize w222.drew = w223 at BK170 BK176 BK181 BK192 BK197 BK202 BK208 HB hHeld ⊢
          refine take_ (i := 0) (N := some 156) (v := ?_) (a' := ?_) #[true, false, false, false, false, false, false, false, false, false, false, false, false, false, false, false, false, false, false, false, false, false, false, false, false] rfl rfl (take_ofW HT_.out HW_.out (by kernel_rfl)) (fun _ _ _ h => h) (Or.inl ⟨by rfl, ?_⟩) hHeld ?_ ?_
          rotate_left
          ·rintro w' ⟨s0, s1, s2, s3, s4, s5⟩
           go_simp
           with_reducible rfl
          rotate_left
          ·simp only [Act.put, sA, sB, sC, i64_w, i32_w]
           rfl
          refine take_ (i := 1) (N := some 157) (v := ?_) (a' := ?_) #[true, true, false, false, false, false, false, false, false, false, false, false, false, false, false, false, false, false, false, false, false, false, false, false, false] rfl rfl (take_ofW HT_.out HW_.out (by kernel_rfl)) (fun _ _ _ h => h) (Or.inl ⟨by rfl, ?_⟩) hHeld ?_ ?_
          rotate_left
          ·rintro w' ⟨s0, s1, s2, s3, s4, s5⟩
           go_simp
           with_reducible rfl
          rotate_left
          ·simp only [Act.put, sA, sB, sC, i64_w, i32_w]
           rfl
          refine pure_ (i := 2) (N := some 158) (v := ?_) (a' := ?_) #[true, true, true, false, false, false, false, false, false, false, false, false, false, false, false, false, false, false, false, false, false, false, false, false, false] rfl rfl (any_of HT_.out (by kernel_rfl)) (fun _ _ _ h => h) (Or.inl ⟨by rfl, ?_⟩) ?_ ?_
          rotate_left
          ·intro w'
           go_simp
           with_reducible rfl
          rotate_left
          ·simp only [Act.put, sA, sB, sC, i64_w, i32_w]
           rfl
          refine pure_ (i := 3) (N := some 159) (v := ?_) (a' := ?_) #[true, true, true, true, false, false, false, false, false, false, false, false, false, false, false, false, false, false, false, false, false, false, false, false, false] rfl rfl (any_of HT_.out (by kernel_rfl)) (fun _ _ _ h => h) (Or.inl ⟨by rfl, ?_⟩) ?_ ?_
          rotate_left
          ·intro w'
           go_simp
           with_reducible rfl
          rotate_left
          ·simp only [Act.put, sA, sB, sC, i64_w, i32_w]
           rfl
          refine pure_ (i := 4) (N := some 160) (v := ?_) (a' := ?_) #[true, true, true, true, true, false, false, false, false, false, false, false, false, false, false, false, false, false, false, false, false, false, false, false, false] rfl rfl (any_of HT_.out (by kernel_rfl)) (fun _ _ _ h => h) (Or.inl ⟨by rfl, ?_⟩) ?_ ?_
          rotate_left
          ·intro w'
           go_simp
           with_reducible rfl
          rotate_left
          ·simp only [Act.put, sA, sB, sC, i64_w, i32_w]
           rfl
          refine pure_ (i := 5) (N := some 161) (v := ?_) (a' := ?_) #[true, true, true, true, true, true, false, false, false, false, false, false, false, false, false, false, false, false, false, false, false, false, false, false, false] rfl rfl (any_of HT_.out (by kernel_rfl)) (fun _ _ _ h => h) (Or.inl ⟨by rfl, ?_⟩) ?_ ?_
          rotate_left
          ·intro w'
           go_simp
           with_reducible rfl
          rotate_left
          ·simp only [Act.put, sA, sB, sC, i64_w, i32_w]
           rfl
          refine pure_ (i := 6) (N := some 162) (v := ?_) (a' := ?_) #[true, true, true, true, true, true, true, false, false, false, false, false, false, false, false, false, false, false, false, false, false, false, false, false, false] rfl rfl (any_of HT_.out (by kernel_rfl)) (fun _ _ _ h => h) (Or.inl ⟨by rfl, ?_⟩) ?_ ?_
          rotate_left
          ·intro w'
           go_simp
           with_reducible rfl
          rotate_left
          ·simp only [Act.put, sA, sB, sC, i64_w, i32_w]
           rfl
          refine pure_ (i := 7) (N := some 163) (v := ?_) (a' := ?_) #[true, true, true, true, true, true, true, true, false, false, false, false, false, false, false, false, false, false, false, false, false, false, false, false, false] rfl rfl (any_of HT_.out (by kernel_rfl)) (fun _ _ _ h => h) (Or.inl ⟨by rfl, ?_⟩) ?_ ?_
          rotate_left
          ·intro w'
           go_simp
           with_reducible rfl
          rotate_left
          ·simp only [Act.put, sA, sB, sC, i64_w, i32_w]
           rfl
          refine pure_ (i := 8) (N := some 164) (v := ?_) (a' := ?_) #[true, true, true, true, true, true, true, true, true, false, false, false, false, false, false, false, false, false, false, false, false, false, false, false, false] rfl rfl (any_of HT_.out (by kernel_rfl)) (fun _ _ _ h => h) (Or.inl ⟨by rfl, ?_⟩) ?_ ?_
          rotate_left
          ·intro w'
           go_simp
           with_reducible rfl
          rotate_left
          ·simp only [Act.put, sA, sB, sC, i64_w, i32_w]
           rfl
          refine pure_ (i := 9) (N := some 165) (v := undef) (a' := ?_) #[true, true, true, true, true, true, true, true, true, true, false, false, false, false, false, false, false, false, false, false, false, false, false, false, false] rfl rfl (any_of HT_.out (by kernel_rfl)) (fun _ _ _ h => h) (Or.inr ⟨by rfl, rfl⟩) ?_ ?_
          rotate_left
          ·simp only [Act.put, sA, sB, sC, i64_w, i32_w]
           rfl
          refine pure_ (i := 10) (N := some 166) (v := undef) (a' := ?_) #[true, true, true, true, true, true, true, true, true, true, true, false, false, false, false, false, false, false, false, false, false, false, false, false, false] rfl rfl (any_of HT_.out (by kernel_rfl)) (fun _ _ _ h => h) (Or.inr ⟨by rfl, rfl⟩) ?_ ?_
          rotate_left
          ·simp only [Act.put, sA, sB, sC, i64_w, i32_w]
           rfl
          refine pure_ (i := 11) (N := some 167) (v := undef) (a' := ?_) #[true, true, true, true, true, true, true, true, true, true, true, true, false, false, false, false, false, false, false, false, false, false, false, false, false] rfl rfl (any_of HT_.out (by kernel_rfl)) (fun _ _ _ h => h) (Or.inr ⟨by rfl, rfl⟩) ?_ ?_
          rotate_left
          ·simp only [Act.put, sA, sB, sC, i64_w, i32_w]
           rfl
          refine pure_ (i := 12) (N := some 168) (v := undef) (a' := ?_) #[true, true, true, true, true, true, true, true, true, true, true, true, true, false, false, false, false, false, false, false, false, false, false, false, false] rfl rfl (any_of HT_.out (by kernel_rfl)) (fun _ _ _ h => h) (Or.inr ⟨by rfl, rfl⟩) ?_ ?_
          rotate_left
          ·simp only [Act.put, sA, sB, sC, i64_w, i32_w]
           rfl
          refine pure_ (i := 13) (N := some 169) (v := undef) (a' := ?_) #[true, true, true, true, true, true, true, true, true, true, true, true, true, true, false, false, false, false, false, false, false, false, false, false, false] rfl rfl (any_of HT_.out (by kernel_rfl)) (fun _ _ _ h => h) (Or.inr ⟨by rfl, rfl⟩) ?_ ?_
          rotate_left
          ·simp only [Act.put, sA, sB, sC, i64_w, i32_w]
           rfl
          refine pure_ (i := 14) (N := some 170) (v := undef) (a' := ?_) #[true, true, true, true, true, true, true, true, true, true, true, true, true, true, true, false, false, false, false, false, false, false, false, false, false] rfl rfl (any_of HT_.out (by kernel_rfl)) (fun _ _ _ h => h) (Or.inr ⟨by rfl, rfl⟩) ?_ ?_
          rotate_left
          ·simp only [Act.put, sA, sB, sC, i64_w, i32_w]
           rfl
          refine pure_ (i := 15) (N := some 171) (v := undef) (a' := ?_) #[true, true, true, true, true, true, true, true, true, true, true, true, true, true, true, true, false, false, false, false, false, false, false, false, false] rfl rfl (any_of HT_.out (by kernel_rfl)) (fun _ _ _ h => h) (Or.inr ⟨by rfl, rfl⟩) ?_ ?_
          rotate_left
          ·simp only [Act.put, sA, sB, sC, i64_w, i32_w]
           rfl
          refine pure_ (i := 16) (N := some 172) (v := ?_) (a' := ?_) #[true, true, true, true, true, true, true, true, true, true, true, true, true, true, true, true, true, false, false, false, false, false, false, false, false] rfl rfl (any_of HT_.out (by kernel_rfl)) (fun _ _ _ h => h) (Or.inl ⟨by rfl, ?_⟩) ?_ ?_
          rotate_left
          ·intro w'
           go_simp
           with_reducible rfl
          rotate_left
          ·simp only [Act.put, sA, sB, sC, i64_w, i32_w]
           rfl
          refine pure_ (i := 17) (N := some 173) (v := ?_) (a' := ?_) #[true, true, true, true, true, true, true, true, true, true, true, true, true, true, true, true, true, true, false, false, false, false, false, false, false] rfl rfl (any_of HT_.out (by kernel_rfl)) (fun _ _ _ h => h) (Or.inl ⟨by rfl, ?_⟩) ?_ ?_
          rotate_left
          ·intro w'
           go_simp
           with_reducible rfl
          rotate_left
          ·simp only [Act.put, sA, sB, sC, i64_w, i32_w]
           rfl
          refine pure_ (i := 18) (N := some 174) (v := undef) (a' := ?_) #[true, true, true, true, true, true, true, true, true, true, true, true, true, true, true, true, true, true, true, false, false, false, false, false, false] rfl rfl (any_of HT_.out (by kernel_rfl)) (fun _ _ _ h => h) (Or.inr ⟨by rfl, rfl⟩) ?_ ?_
          rotate_left
          ·simp only [Act.put, sA, sB, sC, i64_w, i32_w]
           rfl
          refine pure_ (i := 19) (N := some 175) (v := undef) (a' := ?_) #[true, true, true, true, true, true, true, true, true, true, true, true, true, true, true, true, true, true, true, true, false, false, false, false, false] rfl rfl (any_of HT_.out (by kernel_rfl)) (fun _ _ _ h => h) (Or.inr ⟨by rfl, rfl⟩) ?_ ?_
          rotate_left
          ·simp only [Act.put, sA, sB, sC, i64_w, i32_w]
           rfl
          refine pure_ (i := 20) (N := some 176) (v := ?_) (a' := ?_) #[true, true, true, true, true, true, true, true, true, true, true, true, true, true, true, true, true, true, true, true, true, false, false, false, false] rfl rfl (any_of HT_.out (by kernel_rfl)) (fun _ _ _ h => h) (Or.inl ⟨by rfl, ?_⟩) ?_ ?_
          rotate_left
          ·intro w'
           go_simp
           with_reducible rfl
          rotate_left
          ·simp only [Act.put, sA, sB, sC, i64_w, i32_w]
           rfl
          refine pure_ (i := 21) (N := some 177) (v := ?_) (a' := ?_) #[true, true, true, true, true, true, true, true, true, true, true, true, true, true, true, true, true, true, true, true, true, true, false, false, false] rfl rfl (any_of HT_.out (by kernel_rfl)) (fun _ _ _ h => h) (Or.inl ⟨by rfl, ?_⟩) ?_ ?_
          rotate_left
          ·intro w'
           go_simp
           with_reducible rfl
          rotate_left
          ·simp only [Act.put, sA, sB, sC, i64_w, i32_w]
           rfl
          refine pure_ (i := 22) (N := some 178) (v := undef) (a' := ?_) #[true, true, true, true, true, true, true, true, true, true, true, true, true, true, true, true, true, true, true, true, true, true, true, false, false] rfl rfl (any_of HT_.out (by kernel_rfl)) (fun _ _ _ h => h) (Or.inr ⟨by rfl, rfl⟩) ?_ ?_
          rotate_left
          ·simp only [Act.put, sA, sB, sC, i64_w, i32_w]
           rfl
          refine pure_ (i := 23) (N := some 179) (v := ?_) (a' := ?_) #[true, true, true, true, true, true, true, true, true, true, true, true, true, true, true, true, true, true, true, true, true, true, true, true, false] rfl rfl (any_of HT_.out (by kernel_rfl)) (fun _ _ _ h => h) (Or.inl ⟨by rfl, ?_⟩) ?_ ?_
          rotate_left
          ·intro w'
           go_simp
           with_reducible rfl
          rotate_left
          ·simp only [Act.put, sA, sB, sC, i64_w, i32_w]
           rfl
          refine pure_ (i := 24) (N := some 12) (v := ?_) (a' := ?_) #[true, true, true, true, true, true, true, true, true, true, true, true, true, true, true, true, true, true, true, true, true, true, true, true, true] rfl rfl (any_of HT_.out (by kernel_rfl)) (fun _ _ _ h => h) (Or.inl ⟨by rfl, ?_⟩) ?_ ?_
          rotate_left
          ·intro w'
           go_simp
           with_reducible rfl
          rotate_left
          ·simp only [Act.put, sA, sB, sC, i64_w, i32_w]
           rfl
          refine done_ (done_of HT_.out (by kernel_rfl)) ?_
          try go_wp2
          go_ret
          exact ⟨by first | rfl | (simp <;> rfl) | (simp [*] <;> rfl), by repeat (first | (with_reducible first | exact HB.out | apply wA | apply wN | apply w1_ | refine wS ?_ (by assumption)) | exact HB.out)⟩
        ·rw [if_neg c146] at H
         have c146b0 : (t172 == t204 && (t173 == t205 && (t174.toList == t206.toList))) = false := by simpa using c146
         (try (have c146q_ : (t172 = t204 ∧ t173 = t205 ∧ t174.toList = t206.toList) = False := eq_false (fun h_ => by have z_ := c146b0; simp [h_.1, h_.2.1, h_.2.2] at z_)))
         clear c146
         obtain rfl := Option.some.inj H
         try go_wp2_with (first | ((with_reducible refine gate_callee (f := 42) rfl ?_); refine goesL_ (some 128) rfl rfl Try.func42 (by kernel_rfl) rfl #[.int .i64 a4] rfl (by (try simp only [List.map_toArray, List.map_cons, List.map_nil]); first | done | rfl | (simp only [List.length_drop, List.length_take]; rfl)) ?_; (with_reducible refine (halyardref11_May.calls a4 true _ A143.out).mono ?_); rintro e w' ⟨rfl, ⟨nd, rfl⟩⟩; refine ⟨_, rfl, ?_⟩; (try (rw [drewN_self wc]; generalize hq_ : World.drewN wc _ = wc; have n0_ : Aside0 (wc.heap[gb170]? = some (.cells #[.int .u8 a1_0, .int .u8 a1_1, .string a1_2] 25 (0, 0))) := ⟨by rw [← hq_]; exact (by (with_reducible repeat first | apply bN | apply bD | apply bA); exact BK170.out)⟩; have n1_ : Aside0 (wc.heap[gb176]? = some (.cells #[.int .u8 t172, .int .u8 t173, .string t174] 25 (0, 0))) := ⟨by rw [← hq_]; exact (by (with_reducible repeat first | apply bN | apply bD | apply bA); exact BK176.out)⟩; have n2_ : Aside0 (wc.heap[gb181]? = some (.cells #[.int .u8 t177, .int .u8 t178, .string t179] 25 (0, 0))) := ⟨by rw [← hq_]; exact (by (with_reducible repeat first | apply bN | apply bD | apply bA); exact BK181.out)⟩; have n3_ : Aside0 (wc.heap[gb192]? = some (.cells #[.int .u8 t188, .int .u8 t189, .string t190] 25 (0, 0))) := ⟨by rw [← hq_]; exact (by (with_reducible repeat first | apply bN | apply bD | apply bA); exact BK192.out)⟩; have n4_ : Aside0 (wc.heap[gb197]? = some (.cells #[.int .u8 t193, .int .u8 t194, .string t195] 25 (0, 0))) := ⟨by rw [← hq_]; exact (by (with_reducible repeat first | apply bN | apply bD | apply bA); exact BK197.out)⟩; have n5_ : Aside0 (wc.heap[gb202]? = some (.cells #[.int .u8 t198, .int .u8 t199, .string t200] 25 (0, 0))) := ⟨by rw [← hq_]; exact (by (with_reducible repeat first | apply bN | apply bD | apply bA); exact BK202.out)⟩; have n6_ : Aside0 (Below w.heap.size w wc) := ⟨by rw [← hq_]; exact (by repeat (first | (with_reducible first | exact HB.out | apply wA | apply wN | apply w1_ | refine wS ?_ (by assumption)) | exact HB.out))⟩; clear BK170 BK176 BK181 BK192 BK197 BK202 HB hq_; have BK170 := n0_; have BK176 := n1_; have BK181 := n2_; have BK192 := n3_; have BK197 := n4_; have BK202 := n5_; have HB := n6_; clear n0_ n1_ n2_ n3_ n4_ n5_ n6_)); have hnb224 := NB170_176.out; have hnc224 := NB176_170.out; have hnb225 := NB170_181.out; have hnc225 := NB181_170.out; have hnb226 := NB170_192.out; have hnc226 := NB192_170.out; have hnb227 := NB170_197.out; have hnc227 := NB197_170.out; have hnb228 := NB170_202.out; have hnc228 := NB202_170.out; have hcz229_0 : wc.cell? ⟨gb170, 0, none⟩ = some (.int .u8 a1_0) := (blk_cell BK170.out 0).trans rfl; have hcz229_1 : wc.cell? ⟨gb170, 1, none⟩ = some (.int .u8 a1_1) := (blk_cell BK170.out 1).trans rfl; have hcz229_2 : wc.cell? ⟨gb170, 2, none⟩ = some (.string a1_2) := (blk_cell BK170.out 2).trans rfl; have hfz229_0 := blk_frozen BK170.out 0; have hfz229_1 := blk_frozen BK170.out 1; have hfz229_2 := blk_frozen BK170.out 2) | ((with_reducible refine gate_callee (f := 43) rfl ?_); refine goesL_ (some 153) rfl rfl Try.func43 (by kernel_rfl) rfl #[.int .u8 a0, .agg #[.int .u8 a1_0, .int .u8 a1_1, .string a1_2], .int .i64 a4] rfl (by (try simp only [List.map_toArray, List.map_cons, List.map_nil]); first | done | rfl | (simp only [List.length_drop, List.length_take]; rfl)) ?_; (with_reducible refine (halyardref11_Code.calls a0 a1_0 a1_1 a1_2 a4 t204 t205 t206 t207 _ A145.out).mono ?_); rintro e w230 ⟨rfl, hb⟩; refine ⟨_, rfl, ?_⟩; have n0_ := nB (by (with_reducible repeat first | apply bN | apply bD | apply bA); exact BK170.out) hb; have n1_ := nB (by (with_reducible repeat first | apply bN | apply bD | apply bA); exact BK176.out) hb; have n2_ := nB (by (with_reducible repeat first | apply bN | apply bD | apply bA); exact BK181.out) hb; have n3_ := nB (by (with_reducible repeat first | apply bN | apply bD | apply bA); exact BK192.out) hb; have n4_ := nB (by (with_reducible repeat first | apply bN | apply bD | apply bA); exact BK197.out) hb; have n5_ := nB (by (with_reducible repeat first | apply bN | apply bD | apply bA); exact BK202.out) hb; have n6_ := mkA (below_step (by repeat (first | (with_reducible first | exact HB.out | apply wA | apply wN | apply w1_ | refine wS ?_ (by assumption)) | exact HB.out)) hb); clear BK170; clear BK176; clear BK181; clear BK192; clear BK197; clear BK202; clear HB; have BK170 := n0_; have BK176 := n1_; have BK181 := n2_; have BK192 := n3_; have BK197 := n4_; have BK202 := n5_; have HB := n6_; clear n0_ n1_ n2_ n3_ n4_ n5_ n6_; (try clear hb); (try clear hb2); (try clear hk); (try clear hi)) | ((with_reducible refine gate_dst (N := 29) rfl ?_); refine box_event ?hg (N := 29) ?hd (cs := #[.int .u8 0, .int .u8 0, .string (⟨#[]⟩ : ByteArray)]) (t := 25) ?hr ?_; (case hd => rfl); (case hg => rfl); (case hr => first | (go_simp; done) | (go_simp; rfl)); intro gb208 hg w231 hbox hb; have n0_ := nB (by (with_reducible repeat first | apply bN | apply bD | apply bA); exact BK170.out) hb; have n1_ := nB (by (with_reducible repeat first | apply bN | apply bD | apply bA); exact BK176.out) hb; have n2_ := nB (by (with_reducible repeat first | apply bN | apply bD | apply bA); exact BK181.out) hb; have n3_ := nB (by (with_reducible repeat first | apply bN | apply bD | apply bA); exact BK192.out) hb; have n4_ := nB (by (with_reducible repeat first | apply bN | apply bD | apply bA); exact BK197.out) hb; have n5_ := nB (by (with_reducible repeat first | apply bN | apply bD | apply bA); exact BK202.out) hb; have n6_ := mkA (below_step (by repeat (first | (with_reducible first | exact HB.out | apply wA | apply wN | apply w1_ | refine wS ?_ (by assumption)) | exact HB.out)) hb); have n7_ := mkA (hbox); have n8_ := mkA ((by rw [hg]; exact (below_size (by repeat (first | (with_reducible first | exact HB.out | apply wA | apply wN | apply w1_ | refine wS ?_ (by assumption)) | exact HB.out))) : w.heap.size ≤ gb208)); have n9_ := mkA ((by rw [hg]; exact (below_size (by repeat (first | (with_reducible first | exact HB.out | apply wA | apply wN | apply w1_ | refine wS ?_ (by assumption)) | exact HB.out))) : w.heap.size ≤ gb208)); have n10_ := mkA ((by rw [hg]; exact Nat.ne_of_lt (blk_lt (g := gb170) (o := .cells #[.int .u8 a1_0, .int .u8 a1_1, .string a1_2] 25 (0, 0)) (by (with_reducible repeat first | apply bN | apply bD | apply bA); exact BK170.out)) : gb170 ≠ gb208)); have n11_ := mkA ((by rw [hg]; exact Nat.ne_of_gt (blk_lt (g := gb170) (o := .cells #[.int .u8 a1_0, .int .u8 a1_1, .string a1_2] 25 (0, 0)) (by (with_reducible repeat first | apply bN | apply bD | apply bA); exact BK170.out)) : gb208 ≠ gb170)); have n12_ := mkA ((by rw [hg]; exact Nat.ne_of_lt (blk_lt (g := gb176) (o := .cells #[.int .u8 t172, .int .u8 t173, .string t174] 25 (0, 0)) (by (with_reducible repeat first | apply bN | apply bD | apply bA); exact BK176.out)) : gb176 ≠ gb208)); have n13_ := mkA ((by rw [hg]; exact Nat.ne_of_gt (blk_lt (g := gb176) (o := .cells #[.int .u8 t172, .int .u8 t173, .string t174] 25 (0, 0)) (by (with_reducible repeat first | apply bN | apply bD | apply bA); exact BK176.out)) : gb208 ≠ gb176)); have n14_ := mkA ((by rw [hg]; exact Nat.ne_of_lt (blk_lt (g := gb181) (o := .cells #[.int .u8 t177, .int .u8 t178, .string t179] 25 (0, 0)) (by (with_reducible repeat first | apply bN | apply bD | apply bA); exact BK181.out)) : gb181 ≠ gb208)); have n15_ := mkA ((by rw [hg]; exact Nat.ne_of_gt (blk_lt (g := gb181) (o := .cells #[.int .u8 t177, .int .u8 t178, .string t179] 25 (0, 0)) (by (with_reducible repeat first | apply bN | apply bD | apply bA); exact BK181.out)) : gb208 ≠ gb181)); have n16_ := mkA ((by rw [hg]; exact Nat.ne_of_lt (blk_lt (g := gb192) (o := .cells #[.int .u8 t188, .int .u8 t189, .string t190] 25 (0, 0)) (by (with_reducible repeat first | apply bN | apply bD | apply bA); exact BK192.out)) : gb192 ≠ gb208)); have n17_ := mkA ((by rw [hg]; exact Nat.ne_of_gt (blk_lt (g := gb192) (o := .cells #[.int .u8 t188, .int .u8 t189, .string t190] 25 (0, 0)) (by (with_reducible repeat first | apply bN | apply bD | apply bA); exact BK192.out)) : gb208 ≠ gb192)); have n18_ := mkA ((by rw [hg]; exact Nat.ne_of_lt (blk_lt (g := gb197) (o := .cells #[.int .u8 t193, .int .u8 t194, .string t195] 25 (0, 0)) (by (with_reducible repeat first | apply bN | apply bD | apply bA); exact BK197.out)) : gb197 ≠ gb208)); have n19_ := mkA ((by rw [hg]; exact Nat.ne_of_gt (blk_lt (g := gb197) (o := .cells #[.int .u8 t193, .int .u8 t194, .string t195] 25 (0, 0)) (by (with_reducible repeat first | apply bN | apply bD | apply bA); exact BK197.out)) : gb208 ≠ gb197)); have n20_ := mkA ((by rw [hg]; exact Nat.ne_of_lt (blk_lt (g := gb202) (o := .cells #[.int .u8 t198, .int .u8 t199, .string t200] 25 (0, 0)) (by (with_reducible repeat first | apply bN | apply bD | apply bA); exact BK202.out)) : gb202 ≠ gb208)); have n21_ := mkA ((by rw [hg]; exact Nat.ne_of_gt (blk_lt (g := gb202) (o := .cells #[.int .u8 t198, .int .u8 t199, .string t200] 25 (0, 0)) (by (with_reducible repeat first | apply bN | apply bD | apply bA); exact BK202.out)) : gb208 ≠ gb202)); clear BK170; clear BK176; clear BK181; clear BK192; clear BK197; clear BK202; clear HB; have BK170 := n0_; have BK176 := n1_; have BK181 := n2_; have BK192 := n3_; have BK197 := n4_; have BK202 := n5_; have HB := n6_; have BK208 := n7_; have GW208 := n8_; have GE208 := n9_; have NB170_208 := n10_; have NB208_170 := n11_; have NB176_208 := n12_; have NB208_176 := n13_; have NB181_208 := n14_; have NB208_181 := n15_; have NB192_208 := n16_; have NB208_192 := n17_; have NB197_208 := n18_; have NB208_197 := n19_; have NB202_208 := n20_; have NB208_202 := n21_; clear n0_ n1_ n2_ n3_ n4_ n5_ n6_ n7_ n8_ n9_ n10_ n11_ n12_ n13_ n14_ n15_ n16_ n17_ n18_ n19_ n20_ n21_; clear hb hbox hg; have hnb232 := NB208_170.out; have hnc232 := NB170_208.out; have hnb233 := NB208_176.out; have hnc233 := NB176_208.out; have hnb234 := NB208_181.out; have hnc234 := NB181_208.out; have hnb235 := NB208_192.out; have hnc235 := NB192_208.out; have hnb236 := NB208_197.out; have hnc236 := NB197_208.out; have hnb237 := NB208_202.out; have hnc237 := NB202_208.out; have hcz238_0 : w231.cell? ⟨gb208, 0, none⟩ = some (.int .u8 0) := (blk_cell BK208.out 0).trans rfl; have hcz238_1 : w231.cell? ⟨gb208, 1, none⟩ = some (.int .u8 0) := (blk_cell BK208.out 1).trans rfl; have hcz238_2 : w231.cell? ⟨gb208, 2, none⟩ = some (.string (⟨#[]⟩ : ByteArray)) := (blk_cell BK208.out 2).trans rfl; have hfz238_0 := blk_frozen BK208.out 0; have hfz238_1 := blk_frozen BK208.out 1; have hfz238_2 := blk_frozen BK208.out 2))
         have n0_ : Aside0 ((((w231.setCell ⟨gb208, 0, none⟩ (.int .u8 t204)).setCell ⟨gb208, 1, none⟩ (.int .u8 t205)).setCell ⟨gb208, 2, none⟩ (.string t206)).heap[gb170]? = some (.cells #[.int .u8 a1_0, .int .u8 a1_1, .string a1_2] 25 (0, 0))) := ⟨by (with_reducible repeat first | apply bN | apply bD | apply bA); refine blk_far ?_ NB170_208.out _; (with_reducible repeat first | apply bN | apply bD | apply bA); refine blk_far ?_ NB170_208.out _; (with_reducible repeat first | apply bN | apply bD | apply bA); refine blk_far ?_ NB170_208.out _; (with_reducible repeat first | apply bN | apply bD | apply bA); exact BK170.out⟩
         have n1_ : Aside0 ((((w231.setCell ⟨gb208, 0, none⟩ (.int .u8 t204)).setCell ⟨gb208, 1, none⟩ (.int .u8 t205)).setCell ⟨gb208, 2, none⟩ (.string t206)).heap[gb176]? = some (.cells #[.int .u8 t172, .int .u8 t173, .string t174] 25 (0, 0))) := ⟨by (with_reducible repeat first | apply bN | apply bD | apply bA); refine blk_far ?_ NB176_208.out _; (with_reducible repeat first | apply bN | apply bD | apply bA); refine blk_far ?_ NB176_208.out _; (with_reducible repeat first | apply bN | apply bD | apply bA); refine blk_far ?_ NB176_208.out _; (with_reducible repeat first | apply bN | apply bD | apply bA); exact BK176.out⟩
         have n2_ : Aside0 ((((w231.setCell ⟨gb208, 0, none⟩ (.int .u8 t204)).setCell ⟨gb208, 1, none⟩ (.int .u8 t205)).setCell ⟨gb208, 2, none⟩ (.string t206)).heap[gb181]? = some (.cells #[.int .u8 t177, .int .u8 t178, .string t179] 25 (0, 0))) := ⟨by (with_reducible repeat first | apply bN | apply bD | apply bA); refine blk_far ?_ NB181_208.out _; (with_reducible repeat first | apply bN | apply bD | apply bA); refine blk_far ?_ NB181_208.out _; (with_reducible repeat first | apply bN | apply bD | apply bA); refine blk_far ?_ NB181_208.out _; (with_reducible repeat first | apply bN | apply bD | apply bA); exact BK181.out⟩
         have n3_ : Aside0 ((((w231.setCell ⟨gb208, 0, none⟩ (.int .u8 t204)).setCell ⟨gb208, 1, none⟩ (.int .u8 t205)).setCell ⟨gb208, 2, none⟩ (.string t206)).heap[gb192]? = some (.cells #[.int .u8 t188, .int .u8 t189, .string t190] 25 (0, 0))) := ⟨by (with_reducible repeat first | apply bN | apply bD | apply bA); refine blk_far ?_ NB192_208.out _; (with_reducible repeat first | apply bN | apply bD | apply bA); refine blk_far ?_ NB192_208.out _; (with_reducible repeat first | apply bN | apply bD | apply bA); refine blk_far ?_ NB192_208.out _; (with_reducible repeat first | apply bN | apply bD | apply bA); exact BK192.out⟩
         have n4_ : Aside0 ((((w231.setCell ⟨gb208, 0, none⟩ (.int .u8 t204)).setCell ⟨gb208, 1, none⟩ (.int .u8 t205)).setCell ⟨gb208, 2, none⟩ (.string t206)).heap[gb197]? = some (.cells #[.int .u8 t193, .int .u8 t194, .string t195] 25 (0, 0))) := ⟨by (with_reducible repeat first | apply bN | apply bD | apply bA); refine blk_far ?_ NB197_208.out _; (with_reducible repeat first | apply bN | apply bD | apply bA); refine blk_far ?_ NB197_208.out _; (with_reducible repeat first | apply bN | apply bD | apply bA); refine blk_far ?_ NB197_208.out _; (with_reducible repeat first | apply bN | apply bD | apply bA); exact BK197.out⟩
         have n5_ : Aside0 ((((w231.setCell ⟨gb208, 0, none⟩ (.int .u8 t204)).setCell ⟨gb208, 1, none⟩ (.int .u8 t205)).setCell ⟨gb208, 2, none⟩ (.string t206)).heap[gb202]? = some (.cells #[.int .u8 t198, .int .u8 t199, .string t200] 25 (0, 0))) := ⟨by (with_reducible repeat first | apply bN | apply bD | apply bA); refine blk_far ?_ NB202_208.out _; (with_reducible repeat first | apply bN | apply bD | apply bA); refine blk_far ?_ NB202_208.out _; (with_reducible repeat first | apply bN | apply bD | apply bA); refine blk_far ?_ NB202_208.out _; (with_reducible repeat first | apply bN | apply bD | apply bA); exact BK202.out⟩
         have n6_ : Aside0 ((((w231.setCell ⟨gb208, 0, none⟩ (.int .u8 t204)).setCell ⟨gb208, 1, none⟩ (.int .u8 t205)).setCell ⟨gb208, 2, none⟩ (.string t206)).heap[gb208]? = some (.cells #[.int .u8 t204, .int .u8 t205, .string t206] 25 (0, 0))) := ⟨by (with_reducible repeat first | apply bN | apply bD | apply bA); refine blk_put (cs := #[.int .u8 t204, .int .u8 t205, .string (⟨#[]⟩ : ByteArray)]) ?_ 2 _ rfl; (with_reducible repeat first | apply bN | apply bD | apply bA); refine blk_put (cs := #[.int .u8 t204, .int .u8 0, .string (⟨#[]⟩ : ByteArray)]) ?_ 1 _ rfl; (with_reducible repeat first | apply bN | apply bD | apply bA); refine blk_put (cs := #[.int .u8 0, .int .u8 0, .string (⟨#[]⟩ : ByteArray)]) ?_ 0 _ rfl; (with_reducible repeat first | apply bN | apply bD | apply bA); exact BK208.out⟩
         have n7_ : Aside0 (Below w.heap.size w (((w231.setCell ⟨gb208, 0, none⟩ (.int .u8 t204)).setCell ⟨gb208, 1, none⟩ (.int .u8 t205)).setCell ⟨gb208, 2, none⟩ (.string t206))) := ⟨by repeat (first | (with_reducible first | exact HB.out | apply wA | apply wN | apply w1_ | refine wS ?_ (by assumption)) | exact HB.out)⟩
         (try clear BK170)
         (try clear BK176)
         (try clear BK181)
         (try clear BK192)
         (try clear BK197)
         (try clear BK202)
         (try clear BK208)
         (try clear HB)
         generalize (((w231.setCell ⟨gb208, 0, none⟩ (.int .u8 t204)).setCell ⟨gb208, 1, none⟩ (.int .u8 t205)).setCell ⟨gb208, 2, none⟩ (.string t206)) = w239 at n0_ n1_ n2_ n3_ n4_ n5_ n6_ n7_ ⊢
         have BK170 := n0_
         have BK176 := n1_
         have BK181 := n2_
         have BK192 := n3_
         have BK197 := n4_
         have BK202 := n5_
         have BK208 := n6_
         have HB := n7_
         clear n0_ n1_ n2_ n3_ n4_ n5_ n6_ n7_
         have n0_ := mkA (blk_drew BK170.out)
         have n1_ := mkA (blk_drew BK176.out)
         have n2_ := mkA (blk_drew BK181.out)
         have n3_ := mkA (blk_drew BK192.out)
         have n4_ := mkA (blk_drew BK197.out)
         have n5_ := mkA (blk_drew BK202.out)
         have n6_ := mkA (blk_drew BK208.out)
         have n7_ := mkA (below_drew1 HB.out)
         clear BK170
         clear BK176
         clear BK181
         clear BK192
         clear BK197
         clear BK202
         clear BK208
         clear HB
         have BK170 := n0_
         have BK176 := n1_
         have BK181 := n2_
         have BK192 := n3_
         have BK197 := n4_
         have BK202 := n5_
         have BK208 := n6_
         have HB := n7_
         clear n0_ n1_ n2_ n3_ n4_ n5_ n6_ n7_
         refine start_ (n := 25) (S := fun w' => w'.cell? ⟨gb176, 0, none⟩ = some (.int .u8 t172) ∧ w'.cell? ⟨gb176, 1, none⟩ = some (.int .u8 t173) ∧ w'.cell? ⟨gb176, 2, none⟩ = some (.string t174) ∧ w'.cell? ⟨gb208, 0, none⟩ = some (.int .u8 t204) ∧ w'.cell? ⟨gb208, 1, none⟩ = some (.int .u8 t205) ∧ w'.cell? ⟨gb208, 2, none⟩ = some (.string t206)) (ds := []) #[false, false, false, false, false, false, false, false, false, false, false, false, false, false, false, false, false, false, false, false, false, false, false, false, false] (by kernel_rfl) rfl rfl ⟨(blk_cell BK176.out 0).trans rfl, (blk_cell BK176.out 1).trans rfl, (blk_cell BK176.out 2).trans rfl, (blk_cell BK208.out 0).trans rfl, (blk_cell BK208.out 1).trans rfl, (blk_cell BK208.out 2).trans rfl⟩ (fun hHeld => ?_); refine with_tabW halyardlaw11_RejectTells.tab20 halyardlaw11_RejectTells.bits20 (fun HT_ HW_ => ?_)
         generalize w239.drew = w240 at BK170 BK176 BK181 BK192 BK197 BK202 BK208 HB hHeld ⊢
         refine take_ (i := 0) (N := some 156) (v := ?_) (a' := ?_) #[true, false, false, false, false, false, false, false, false, false, false, false, false, false, false, false, false, false, false, false, false, false, false, false, false] rfl rfl (take_ofW HT_.out HW_.out (by kernel_rfl)) (fun _ _ _ h => h) (Or.inl ⟨by rfl, ?_⟩) hHeld ?_ ?_
         rotate_left
         ·rintro w' ⟨s0, s1, s2, s3, s4, s5⟩
          go_simp
          with_reducible rfl
         rotate_left
         ·simp only [Act.put, sA, sB, sC, i64_w, i32_w]
          rfl
         refine take_ (i := 1) (N := some 157) (v := ?_) (a' := ?_) #[true, true, false, false, false, false, false, false, false, false, false, false, false, false, false, false, false, false, false, false, false, false, false, false, false] rfl rfl (take_ofW HT_.out HW_.out (by kernel_rfl)) (fun _ _ _ h => h) (Or.inl ⟨by rfl, ?_⟩) hHeld ?_ ?_
         rotate_left
         ·rintro w' ⟨s0, s1, s2, s3, s4, s5⟩
          go_simp
          with_reducible rfl
         rotate_left
         ·simp only [Act.put, sA, sB, sC, i64_w, i32_w]
          rfl
         refine pure_ (i := 2) (N := some 158) (v := ?_) (a' := ?_) #[true, true, true, false, false, false, false, false, false, false, false, false, false, false, false, false, false, false, false, false, false, false, false, false, false] rfl rfl (any_of HT_.out (by kernel_rfl)) (fun _ _ _ h => h) (Or.inl ⟨by rfl, ?_⟩) ?_ ?_
         rotate_left
         ·intro w'
          go_simp
          with_reducible rfl
         rotate_left
         ·simp only [Act.put, sA, sB, sC, i64_w, i32_w]
          rfl
         refine pure_ (i := 3) (N := some 159) (v := ?_) (a' := ?_) #[true, true, true, true, false, false, false, false, false, false, false, false, false, false, false, false, false, false, false, false, false, false, false, false, false] rfl rfl (any_of HT_.out (by kernel_rfl)) (fun _ _ _ h => h) (Or.inl ⟨by rfl, ?_⟩) ?_ ?_
         rotate_left
         ·intro w'
          go_simp
          with_reducible rfl
         rotate_left
         ·simp only [Act.put, sA, sB, sC, i64_w, i32_w]
          rfl
         refine pure_ (i := 4) (N := some 160) (v := undef) (a' := ?_) #[true, true, true, true, true, false, false, false, false, false, false, false, false, false, false, false, false, false, false, false, false, false, false, false, false] rfl rfl (any_of HT_.out (by kernel_rfl)) (fun _ _ _ h => h) (Or.inr ⟨by rfl, rfl⟩) ?_ ?_
         rotate_left
         ·simp only [Act.put, sA, sB, sC, i64_w, i32_w]
          rfl
         refine pure_ (i := 5) (N := some 161) (v := undef) (a' := ?_) #[true, true, true, true, true, true, false, false, false, false, false, false, false, false, false, false, false, false, false, false, false, false, false, false, false] rfl rfl (any_of HT_.out (by kernel_rfl)) (fun _ _ _ h => h) (Or.inr ⟨by rfl, rfl⟩) ?_ ?_
         rotate_left
         ·simp only [Act.put, sA, sB, sC, i64_w, i32_w]
          rfl
         refine pure_ (i := 6) (N := some 162) (v := undef) (a' := ?_) #[true, true, true, true, true, true, true, false, false, false, false, false, false, false, false, false, false, false, false, false, false, false, false, false, false] rfl rfl (any_of HT_.out (by kernel_rfl)) (fun _ _ _ h => h) (Or.inr ⟨by rfl, rfl⟩) ?_ ?_
         rotate_left
         ·simp only [Act.put, sA, sB, sC, i64_w, i32_w]
          rfl
         refine pure_ (i := 7) (N := some 163) (v := ?_) (a' := ?_) #[true, true, true, true, true, true, true, true, false, false, false, false, false, false, false, false, false, false, false, false, false, false, false, false, false] rfl rfl (any_of HT_.out (by kernel_rfl)) (fun _ _ _ h => h) (Or.inl ⟨by rfl, ?_⟩) ?_ ?_
         rotate_left
         ·intro w'
          go_simp
          with_reducible rfl
         rotate_left
         ·simp only [Act.put, sA, sB, sC, i64_w, i32_w]
          rfl
         refine pure_ (i := 8) (N := some 164) (v := ?_) (a' := ?_) #[true, true, true, true, true, true, true, true, true, false, false, false, false, false, false, false, false, false, false, false, false, false, false, false, false] rfl rfl (any_of HT_.out (by kernel_rfl)) (fun _ _ _ h => h) (Or.inl ⟨by rfl, ?_⟩) ?_ ?_
         rotate_left
         ·intro w'
          go_simp
          with_reducible rfl
         rotate_left
         ·simp only [Act.put, sA, sB, sC, i64_w, i32_w]
          rfl
         refine pure_ (i := 9) (N := some 165) (v := undef) (a' := ?_) #[true, true, true, true, true, true, true, true, true, true, false, false, false, false, false, false, false, false, false, false, false, false, false, false, false] rfl rfl (any_of HT_.out (by kernel_rfl)) (fun _ _ _ h => h) (Or.inr ⟨by rfl, rfl⟩) ?_ ?_
         rotate_left
         ·simp only [Act.put, sA, sB, sC, i64_w, i32_w]
          rfl
         refine pure_ (i := 10) (N := some 166) (v := undef) (a' := ?_) #[true, true, true, true, true, true, true, true, true, true, true, false, false, false, false, false, false, false, false, false, false, false, false, false, false] rfl rfl (any_of HT_.out (by kernel_rfl)) (fun _ _ _ h => h) (Or.inr ⟨by rfl, rfl⟩) ?_ ?_
         rotate_left
         ·simp only [Act.put, sA, sB, sC, i64_w, i32_w]
          rfl
         refine pure_ (i := 11) (N := some 167) (v := undef) (a' := ?_) #[true, true, true, true, true, true, true, true, true, true, true, true, false, false, false, false, false, false, false, false, false, false, false, false, false] rfl rfl (any_of HT_.out (by kernel_rfl)) (fun _ _ _ h => h) (Or.inr ⟨by rfl, rfl⟩) ?_ ?_
         rotate_left
         ·simp only [Act.put, sA, sB, sC, i64_w, i32_w]
          rfl
         refine pure_ (i := 12) (N := some 168) (v := undef) (a' := ?_) #[true, true, true, true, true, true, true, true, true, true, true, true, true, false, false, false, false, false, false, false, false, false, false, false, false] rfl rfl (any_of HT_.out (by kernel_rfl)) (fun _ _ _ h => h) (Or.inr ⟨by rfl, rfl⟩) ?_ ?_
         rotate_left
         ·simp only [Act.put, sA, sB, sC, i64_w, i32_w]
          rfl
         refine pure_ (i := 13) (N := some 169) (v := undef) (a' := ?_) #[true, true, true, true, true, true, true, true, true, true, true, true, true, true, false, false, false, false, false, false, false, false, false, false, false] rfl rfl (any_of HT_.out (by kernel_rfl)) (fun _ _ _ h => h) (Or.inr ⟨by rfl, rfl⟩) ?_ ?_
         rotate_left
         ·simp only [Act.put, sA, sB, sC, i64_w, i32_w]
          rfl
         refine pure_ (i := 14) (N := some 170) (v := undef) (a' := ?_) #[true, true, true, true, true, true, true, true, true, true, true, true, true, true, true, false, false, false, false, false, false, false, false, false, false] rfl rfl (any_of HT_.out (by kernel_rfl)) (fun _ _ _ h => h) (Or.inr ⟨by rfl, rfl⟩) ?_ ?_
         rotate_left
         ·simp only [Act.put, sA, sB, sC, i64_w, i32_w]
          rfl
         refine pure_ (i := 15) (N := some 171) (v := undef) (a' := ?_) #[true, true, true, true, true, true, true, true, true, true, true, true, true, true, true, true, false, false, false, false, false, false, false, false, false] rfl rfl (any_of HT_.out (by kernel_rfl)) (fun _ _ _ h => h) (Or.inr ⟨by rfl, rfl⟩) ?_ ?_
         rotate_left
         ·simp only [Act.put, sA, sB, sC, i64_w, i32_w]
          rfl
         refine pure_ (i := 16) (N := some 172) (v := ?_) (a' := ?_) #[true, true, true, true, true, true, true, true, true, true, true, true, true, true, true, true, true, false, false, false, false, false, false, false, false] rfl rfl (any_of HT_.out (by kernel_rfl)) (fun _ _ _ h => h) (Or.inl ⟨by rfl, ?_⟩) ?_ ?_
         rotate_left
         ·intro w'
          go_simp
          with_reducible rfl
         rotate_left
         ·simp only [Act.put, sA, sB, sC, i64_w, i32_w]
          rfl
         refine pure_ (i := 17) (N := some 173) (v := ?_) (a' := ?_) #[true, true, true, true, true, true, true, true, true, true, true, true, true, true, true, true, true, true, false, false, false, false, false, false, false] rfl rfl (any_of HT_.out (by kernel_rfl)) (fun _ _ _ h => h) (Or.inl ⟨by rfl, ?_⟩) ?_ ?_
         rotate_left
         ·intro w'
          go_simp
          with_reducible rfl
         rotate_left
         ·simp only [Act.put, sA, sB, sC, i64_w, i32_w]
          rfl
         refine pure_ (i := 18) (N := some 174) (v := undef) (a' := ?_) #[true, true, true, true, true, true, true, true, true, true, true, true, true, true, true, true, true, true, true, false, false, false, false, false, false] rfl rfl (any_of HT_.out (by kernel_rfl)) (fun _ _ _ h => h) (Or.inr ⟨by rfl, rfl⟩) ?_ ?_
         rotate_left
         ·simp only [Act.put, sA, sB, sC, i64_w, i32_w]
          rfl
         refine pure_ (i := 19) (N := some 175) (v := undef) (a' := ?_) #[true, true, true, true, true, true, true, true, true, true, true, true, true, true, true, true, true, true, true, true, false, false, false, false, false] rfl rfl (any_of HT_.out (by kernel_rfl)) (fun _ _ _ h => h) (Or.inr ⟨by rfl, rfl⟩) ?_ ?_
         rotate_left
         ·simp only [Act.put, sA, sB, sC, i64_w, i32_w]
          rfl
         refine pure_ (i := 20) (N := some 176) (v := ?_) (a' := ?_) #[true, true, true, true, true, true, true, true, true, true, true, true, true, true, true, true, true, true, true, true, true, false, false, false, false] rfl rfl (any_of HT_.out (by kernel_rfl)) (fun _ _ _ h => h) (Or.inl ⟨by rfl, ?_⟩) ?_ ?_
         rotate_left
         ·intro w'
          go_simp
          with_reducible rfl
         rotate_left
         ·simp only [Act.put, sA, sB, sC, i64_w, i32_w]
          rfl
         refine pure_ (i := 21) (N := some 177) (v := ?_) (a' := ?_) #[true, true, true, true, true, true, true, true, true, true, true, true, true, true, true, true, true, true, true, true, true, true, false, false, false] rfl rfl (any_of HT_.out (by kernel_rfl)) (fun _ _ _ h => h) (Or.inl ⟨by rfl, ?_⟩) ?_ ?_
         rotate_left
         ·intro w'
          go_simp
          with_reducible rfl
         rotate_left
         ·simp only [Act.put, sA, sB, sC, i64_w, i32_w]
          rfl
         refine pure_ (i := 22) (N := some 178) (v := undef) (a' := ?_) #[true, true, true, true, true, true, true, true, true, true, true, true, true, true, true, true, true, true, true, true, true, true, true, false, false] rfl rfl (any_of HT_.out (by kernel_rfl)) (fun _ _ _ h => h) (Or.inr ⟨by rfl, rfl⟩) ?_ ?_
         rotate_left
         ·simp only [Act.put, sA, sB, sC, i64_w, i32_w]
          rfl
         refine pure_ (i := 23) (N := some 179) (v := ?_) (a' := ?_) #[true, true, true, true, true, true, true, true, true, true, true, true, true, true, true, true, true, true, true, true, true, true, true, true, false] rfl rfl (any_of HT_.out (by kernel_rfl)) (fun _ _ _ h => h) (Or.inl ⟨by rfl, ?_⟩) ?_ ?_
         rotate_left
         ·intro w'
          go_simp
          with_reducible rfl
         rotate_left
         ·simp only [Act.put, sA, sB, sC, i64_w, i32_w]
          rfl
         refine pure_ (i := 24) (N := some 12) (v := ?_) (a' := ?_) #[true, true, true, true, true, true, true, true, true, true, true, true, true, true, true, true, true, true, true, true, true, true, true, true, true] rfl rfl (any_of HT_.out (by kernel_rfl)) (fun _ _ _ h => h) (Or.inl ⟨by rfl, ?_⟩) ?_ ?_
         rotate_left
         ·intro w'
          go_simp
          with_reducible rfl
         rotate_left
         ·simp only [Act.put, sA, sB, sC, i64_w, i32_w]
          rfl
         refine done_ (done_of HT_.out (by kernel_rfl)) ?_
         try go_wp2
         go_ret
         exact ⟨by first | rfl | (simp <;> rfl) | (simp [*] <;> rfl), by repeat (first | (with_reducible first | exact HB.out | apply wA | apply wN | apply w1_ | refine wS ?_ (by assumption)) | exact HB.out)⟩
       ·replace c144 := Bool.eq_false_iff.mpr c144
        subst c144
        have H1 : (if (t172 == 0 && (t173 == 0 && (t174.toList == ([] : List UInt8)))) = true then (if (t177 == 0 && (t178 == 0 && (t179.toList == ([] : List UInt8)))) = true then (if t175 = 2 then (if t180 = 2 then ((halyardlaw11_alive.f).bind fun t213 => (some t213)) else (some false)) else (some false)) else (some false)) else (some false)) = some r := by rw [if_neg (show ¬ (false = true) by decide)] at H; exact H
        clear H
        have H := H1
        clear H1
        by_cases c241 : (t172 == 0 && (t173 == 0 && (t174.toList == ([] : List UInt8)))) = true
        ·rw [if_pos c241] at H
         have c241b0 : (t172 == 0 && (t173 == 0 && (t174.toList == ([] : List UInt8)))) = true := c241
         (try (have c241e_ : (t172 == 0 && (t173 == 0 && (t174.toList.isEmpty))) = true := (by have z_ := c241b0; revert z_; cases t174.toList <;> exact id)))
         (try (have c241q_ : t172 = 0 ∧ t173 = 0 ∧ t174.toList = ([] : List UInt8) := (by simpa using c241b0)))
         (try (have c241p0_ : (t172 = 0) = True := eq_true c241q_.1))
         (try (have c241p1_ : (t173 = 0) = True := eq_true c241q_.2.1))
         (try (have c241p2_ : (t174.toList = ([] : List UInt8)) = True := eq_true c241q_.2.2))
         (try clear c241q_)
         clear c241
         by_cases c242 : (t177 == 0 && (t178 == 0 && (t179.toList == ([] : List UInt8)))) = true
         ·rw [if_pos c242] at H
          have c242b0 : (t177 == 0 && (t178 == 0 && (t179.toList == ([] : List UInt8)))) = true := c242
          (try (have c242e_ : (t177 == 0 && (t178 == 0 && (t179.toList.isEmpty))) = true := (by have z_ := c242b0; revert z_; cases t179.toList <;> exact id)))
          (try (have c242q_ : t177 = 0 ∧ t178 = 0 ∧ t179.toList = ([] : List UInt8) := (by simpa using c242b0)))
          (try (have c242p0_ : (t177 = 0) = True := eq_true c242q_.1))
          (try (have c242p1_ : (t178 = 0) = True := eq_true c242q_.2.1))
          (try (have c242p2_ : (t179.toList = ([] : List UInt8)) = True := eq_true c242q_.2.2))
          (try clear c242q_)
          clear c242
          by_cases c243 : t175 = 2
          ·rw [if_pos c243] at H
           have c243b0 : (t175 == 2) = true := beq_iff_eq.mpr c243
           have c243b1 : (t175 != 2) = false := bne_eq_false_iff_eq.mpr c243
           clear c243
           by_cases c244 : t180 = 2
           ·rw [if_pos c244] at H
            have c244b0 : (t180 == 2) = true := beq_iff_eq.mpr c244
            have c244b1 : (t180 != 2) = false := bne_eq_false_iff_eq.mpr c244
            clear c244
            replace H := Option.bind_eq_some_iff.mp H
            obtain ⟨t213, A2450, H⟩ := H
            replace H : (some t213) = some r := H
            have A245 := mkA A2450
            clear A2450
            obtain rfl := Option.some.inj H
            go_wp2_with (first | ((with_reducible refine gate_callee (f := 42) rfl ?_); refine goesL_ (some 128) rfl rfl Try.func42 (by kernel_rfl) rfl #[.int .i64 a4] rfl (by (try simp only [List.map_toArray, List.map_cons, List.map_nil]); first | done | rfl | (simp only [List.length_drop, List.length_take]; rfl)) ?_; (with_reducible refine (halyardref11_May.calls a4 false _ A143.out).mono ?_); rintro e w' ⟨rfl, ⟨nd, rfl⟩⟩; refine ⟨_, rfl, ?_⟩; have hnb246 := NB176_170.out; have hnc246 := NB170_176.out; have hnb247 := NB176_181.out; have hnc247 := NB181_176.out; have hnb248 := NB176_192.out; have hnc248 := NB192_176.out; have hnb249 := NB176_197.out; have hnc249 := NB197_176.out; have hnb250 := NB176_202.out; have hnc250 := NB202_176.out; have hcz251_0 : wc.cell? ⟨gb176, 0, none⟩ = some (.int .u8 t172) := (blk_cell BK176.out 0).trans rfl; have hcz251_1 : wc.cell? ⟨gb176, 1, none⟩ = some (.int .u8 t173) := (blk_cell BK176.out 1).trans rfl; have hcz251_2 : wc.cell? ⟨gb176, 2, none⟩ = some (.string t174) := (blk_cell BK176.out 2).trans rfl; have hfz251_0 := blk_frozen BK176.out 0; have hfz251_1 := blk_frozen BK176.out 1; have hfz251_2 := blk_frozen BK176.out 2; have hnb252 := NB181_170.out; have hnc252 := NB170_181.out; have hnb253 := NB181_192.out; have hnc253 := NB192_181.out; have hnb254 := NB181_197.out; have hnc254 := NB197_181.out; have hnb255 := NB181_202.out; have hnc255 := NB202_181.out; have hcz256_0 : wc.cell? ⟨gb181, 0, none⟩ = some (.int .u8 t177) := (blk_cell BK181.out 0).trans rfl; have hcz256_1 : wc.cell? ⟨gb181, 1, none⟩ = some (.int .u8 t178) := (blk_cell BK181.out 1).trans rfl; have hcz256_2 : wc.cell? ⟨gb181, 2, none⟩ = some (.string t179) := (blk_cell BK181.out 2).trans rfl; have hfz256_0 := blk_frozen BK181.out 0; have hfz256_1 := blk_frozen BK181.out 1; have hfz256_2 := blk_frozen BK181.out 2) | (go_at_call 33; (with_reducible refine (halyardlaw11_alive.calls  t213 _ A245.out).mono ?_); rintro e w257 ⟨rfl, hb⟩; have n0_ := nB (by (with_reducible repeat first | apply bN | apply bD | apply bA); exact BK170.out) hb; have n1_ := nB (by (with_reducible repeat first | apply bN | apply bD | apply bA); exact BK176.out) hb; have n2_ := nB (by (with_reducible repeat first | apply bN | apply bD | apply bA); exact BK181.out) hb; have n3_ := nB (by (with_reducible repeat first | apply bN | apply bD | apply bA); exact BK192.out) hb; have n4_ := nB (by (with_reducible repeat first | apply bN | apply bD | apply bA); exact BK197.out) hb; have n5_ := nB (by (with_reducible repeat first | apply bN | apply bD | apply bA); exact BK202.out) hb; have n6_ := mkA (below_step (by repeat (first | (with_reducible first | exact HB.out | apply wA | apply wN | apply w1_ | refine wS ?_ (by assumption)) | exact HB.out)) hb); clear BK170; clear BK176; clear BK181; clear BK192; clear BK197; clear BK202; clear HB; have BK170 := n0_; have BK176 := n1_; have BK181 := n2_; have BK192 := n3_; have BK197 := n4_; have BK202 := n5_; have HB := n6_; clear n0_ n1_ n2_ n3_ n4_ n5_ n6_; (try clear hb); (try clear hb2); (try clear hk); (try clear hi)))
            go_ret
            exact ⟨by first | rfl | (simp <;> rfl) | (simp [*] <;> rfl), by repeat (first | (with_reducible first | exact HB.out | apply wA | apply wN | apply w1_ | refine wS ?_ (by assumption)) | exact HB.out)⟩
           ·rw [if_neg c244] at H
            have c244b0 : (t180 == 2) = false := beq_eq_false_iff_ne.mpr c244
            have c244b1 : (t180 != 2) = true := bne_iff_ne.mpr c244
            obtain rfl := Option.some.inj H
            go_wp2_with (first | ((with_reducible refine gate_callee (f := 42) rfl ?_); refine goesL_ (some 128) rfl rfl Try.func42 (by kernel_rfl) rfl #[.int .i64 a4] rfl (by (try simp only [List.map_toArray, List.map_cons, List.map_nil]); first | done | rfl | (simp only [List.length_drop, List.length_take]; rfl)) ?_; (with_reducible refine (halyardref11_May.calls a4 false _ A143.out).mono ?_); rintro e w' ⟨rfl, ⟨nd, rfl⟩⟩; refine ⟨_, rfl, ?_⟩; have hnb258 := NB176_170.out; have hnc258 := NB170_176.out; have hnb259 := NB176_181.out; have hnc259 := NB181_176.out; have hnb260 := NB176_192.out; have hnc260 := NB192_176.out; have hnb261 := NB176_197.out; have hnc261 := NB197_176.out; have hnb262 := NB176_202.out; have hnc262 := NB202_176.out; have hcz263_0 : wc.cell? ⟨gb176, 0, none⟩ = some (.int .u8 t172) := (blk_cell BK176.out 0).trans rfl; have hcz263_1 : wc.cell? ⟨gb176, 1, none⟩ = some (.int .u8 t173) := (blk_cell BK176.out 1).trans rfl; have hcz263_2 : wc.cell? ⟨gb176, 2, none⟩ = some (.string t174) := (blk_cell BK176.out 2).trans rfl; have hfz263_0 := blk_frozen BK176.out 0; have hfz263_1 := blk_frozen BK176.out 1; have hfz263_2 := blk_frozen BK176.out 2; have hnb264 := NB181_170.out; have hnc264 := NB170_181.out; have hnb265 := NB181_192.out; have hnc265 := NB192_181.out; have hnb266 := NB181_197.out; have hnc266 := NB197_181.out; have hnb267 := NB181_202.out; have hnc267 := NB202_181.out; have hcz268_0 : wc.cell? ⟨gb181, 0, none⟩ = some (.int .u8 t177) := (blk_cell BK181.out 0).trans rfl; have hcz268_1 : wc.cell? ⟨gb181, 1, none⟩ = some (.int .u8 t178) := (blk_cell BK181.out 1).trans rfl; have hcz268_2 : wc.cell? ⟨gb181, 2, none⟩ = some (.string t179) := (blk_cell BK181.out 2).trans rfl; have hfz268_0 := blk_frozen BK181.out 0; have hfz268_1 := blk_frozen BK181.out 1; have hfz268_2 := blk_frozen BK181.out 2))
            go_ret
            exact ⟨by first | rfl | (simp <;> rfl) | (simp [*] <;> rfl), by repeat (first | (with_reducible first | exact HB.out | apply wA | apply wN | apply w1_ | refine wS ?_ (by assumption)) | exact HB.out)⟩
          ·rw [if_neg c243] at H
           have c243b0 : (t175 == 2) = false := beq_eq_false_iff_ne.mpr c243
           have c243b1 : (t175 != 2) = true := bne_iff_ne.mpr c243
           obtain rfl := Option.some.inj H
           go_wp2_with (first | ((with_reducible refine gate_callee (f := 42) rfl ?_); refine goesL_ (some 128) rfl rfl Try.func42 (by kernel_rfl) rfl #[.int .i64 a4] rfl (by (try simp only [List.map_toArray, List.map_cons, List.map_nil]); first | done | rfl | (simp only [List.length_drop, List.length_take]; rfl)) ?_; (with_reducible refine (halyardref11_May.calls a4 false _ A143.out).mono ?_); rintro e w' ⟨rfl, ⟨nd, rfl⟩⟩; refine ⟨_, rfl, ?_⟩; have hnb269 := NB176_170.out; have hnc269 := NB170_176.out; have hnb270 := NB176_181.out; have hnc270 := NB181_176.out; have hnb271 := NB176_192.out; have hnc271 := NB192_176.out; have hnb272 := NB176_197.out; have hnc272 := NB197_176.out; have hnb273 := NB176_202.out; have hnc273 := NB202_176.out; have hcz274_0 : wc.cell? ⟨gb176, 0, none⟩ = some (.int .u8 t172) := (blk_cell BK176.out 0).trans rfl; have hcz274_1 : wc.cell? ⟨gb176, 1, none⟩ = some (.int .u8 t173) := (blk_cell BK176.out 1).trans rfl; have hcz274_2 : wc.cell? ⟨gb176, 2, none⟩ = some (.string t174) := (blk_cell BK176.out 2).trans rfl; have hfz274_0 := blk_frozen BK176.out 0; have hfz274_1 := blk_frozen BK176.out 1; have hfz274_2 := blk_frozen BK176.out 2; have hnb275 := NB181_170.out; have hnc275 := NB170_181.out; have hnb276 := NB181_192.out; have hnc276 := NB192_181.out; have hnb277 := NB181_197.out; have hnc277 := NB197_181.out; have hnb278 := NB181_202.out; have hnc278 := NB202_181.out; have hcz279_0 : wc.cell? ⟨gb181, 0, none⟩ = some (.int .u8 t177) := (blk_cell BK181.out 0).trans rfl; have hcz279_1 : wc.cell? ⟨gb181, 1, none⟩ = some (.int .u8 t178) := (blk_cell BK181.out 1).trans rfl; have hcz279_2 : wc.cell? ⟨gb181, 2, none⟩ = some (.string t179) := (blk_cell BK181.out 2).trans rfl; have hfz279_0 := blk_frozen BK181.out 0; have hfz279_1 := blk_frozen BK181.out 1; have hfz279_2 := blk_frozen BK181.out 2))
           go_ret
           exact ⟨by first | rfl | (simp <;> rfl) | (simp [*] <;> rfl), by repeat (first | (with_reducible first | exact HB.out | apply wA | apply wN | apply w1_ | refine wS ?_ (by assumption)) | exact HB.out)⟩
         ·rw [if_neg c242] at H
          have c242b0 : (t177 == 0 && (t178 == 0 && (t179.toList == ([] : List UInt8)))) = false := by simpa using c242
          (try (have c242e_ : (t177 == 0 && (t178 == 0 && (t179.toList.isEmpty))) = false := (by have z_ := c242b0; revert z_; cases t179.toList <;> exact id)))
          (try (have c242q_ : (t177 = 0 ∧ t178 = 0 ∧ t179.toList = ([] : List UInt8)) = False := eq_false (fun h_ => by have z_ := c242b0; simp [h_.1, h_.2.1, h_.2.2] at z_)))
          clear c242
          obtain rfl := Option.some.inj H
          go_wp2_with (first | ((with_reducible refine gate_callee (f := 42) rfl ?_); refine goesL_ (some 128) rfl rfl Try.func42 (by kernel_rfl) rfl #[.int .i64 a4] rfl (by (try simp only [List.map_toArray, List.map_cons, List.map_nil]); first | done | rfl | (simp only [List.length_drop, List.length_take]; rfl)) ?_; (with_reducible refine (halyardref11_May.calls a4 false _ A143.out).mono ?_); rintro e w' ⟨rfl, ⟨nd, rfl⟩⟩; refine ⟨_, rfl, ?_⟩; have hnb280 := NB176_170.out; have hnc280 := NB170_176.out; have hnb281 := NB176_181.out; have hnc281 := NB181_176.out; have hnb282 := NB176_192.out; have hnc282 := NB192_176.out; have hnb283 := NB176_197.out; have hnc283 := NB197_176.out; have hnb284 := NB176_202.out; have hnc284 := NB202_176.out; have hcz285_0 : wc.cell? ⟨gb176, 0, none⟩ = some (.int .u8 t172) := (blk_cell BK176.out 0).trans rfl; have hcz285_1 : wc.cell? ⟨gb176, 1, none⟩ = some (.int .u8 t173) := (blk_cell BK176.out 1).trans rfl; have hcz285_2 : wc.cell? ⟨gb176, 2, none⟩ = some (.string t174) := (blk_cell BK176.out 2).trans rfl; have hfz285_0 := blk_frozen BK176.out 0; have hfz285_1 := blk_frozen BK176.out 1; have hfz285_2 := blk_frozen BK176.out 2; have hnb286 := NB181_170.out; have hnc286 := NB170_181.out; have hnb287 := NB181_192.out; have hnc287 := NB192_181.out; have hnb288 := NB181_197.out; have hnc288 := NB197_181.out; have hnb289 := NB181_202.out; have hnc289 := NB202_181.out; have hcz290_0 : wc.cell? ⟨gb181, 0, none⟩ = some (.int .u8 t177) := (blk_cell BK181.out 0).trans rfl; have hcz290_1 : wc.cell? ⟨gb181, 1, none⟩ = some (.int .u8 t178) := (blk_cell BK181.out 1).trans rfl; have hcz290_2 : wc.cell? ⟨gb181, 2, none⟩ = some (.string t179) := (blk_cell BK181.out 2).trans rfl; have hfz290_0 := blk_frozen BK181.out 0; have hfz290_1 := blk_frozen BK181.out 1; have hfz290_2 := blk_frozen BK181.out 2))
          go_ret
          exact ⟨by first | rfl | (simp <;> rfl) | (simp [*] <;> rfl), by repeat (first | (with_reducible first | exact HB.out | apply wA | apply wN | apply w1_ | refine wS ?_ (by assumption)) | exact HB.out)⟩
        ·rw [if_neg c241] at H
         have c241b0 : (t172 == 0 && (t173 == 0 && (t174.toList == ([] : List UInt8)))) = false := by simpa using c241
         (try (have c241e_ : (t172 == 0 && (t173 == 0 && (t174.toList.isEmpty))) = false := (by have z_ := c241b0; revert z_; cases t174.toList <;> exact id)))
         (try (have c241q_ : (t172 = 0 ∧ t173 = 0 ∧ t174.toList = ([] : List UInt8)) = False := eq_false (fun h_ => by have z_ := c241b0; simp [h_.1, h_.2.1, h_.2.2] at z_)))
         clear c241
         obtain rfl := Option.some.inj H
         go_wp2_with (first | ((with_reducible refine gate_callee (f := 42) rfl ?_); refine goesL_ (some 128) rfl rfl Try.func42 (by kernel_rfl) rfl #[.int .i64 a4] rfl (by (try simp only [List.map_toArray, List.map_cons, List.map_nil]); first | done | rfl | (simp only [List.length_drop, List.length_take]; rfl)) ?_; (with_reducible refine (halyardref11_May.calls a4 false _ A143.out).mono ?_); rintro e w' ⟨rfl, ⟨nd, rfl⟩⟩; refine ⟨_, rfl, ?_⟩; have hnb291 := NB176_170.out; have hnc291 := NB170_176.out; have hnb292 := NB176_181.out; have hnc292 := NB181_176.out; have hnb293 := NB176_192.out; have hnc293 := NB192_176.out; have hnb294 := NB176_197.out; have hnc294 := NB197_176.out; have hnb295 := NB176_202.out; have hnc295 := NB202_176.out; have hcz296_0 : wc.cell? ⟨gb176, 0, none⟩ = some (.int .u8 t172) := (blk_cell BK176.out 0).trans rfl; have hcz296_1 : wc.cell? ⟨gb176, 1, none⟩ = some (.int .u8 t173) := (blk_cell BK176.out 1).trans rfl; have hcz296_2 : wc.cell? ⟨gb176, 2, none⟩ = some (.string t174) := (blk_cell BK176.out 2).trans rfl; have hfz296_0 := blk_frozen BK176.out 0; have hfz296_1 := blk_frozen BK176.out 1; have hfz296_2 := blk_frozen BK176.out 2))
         go_ret
         exact ⟨by first | rfl | (simp <;> rfl) | (simp [*] <;> rfl), by repeat (first | (with_reducible first | exact HB.out | apply wA | apply wN | apply w1_ | refine wS ?_ (by assumption)) | exact HB.out)⟩

end Go.Proofs.Ytdlpoemjgeehgaa.PG11T
