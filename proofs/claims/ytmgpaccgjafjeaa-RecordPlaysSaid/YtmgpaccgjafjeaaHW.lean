import Derived.Test.YtmgpaccgjafjeaaWWords
import Derived.Deep.RegionLaw
import Derived.Lib.BufferWrite
import Derived.BigRegion
import Derived.Deep.DeepMust
namespace Go.Proofs.YtmgpaccgjafjeaaHW
open Go.RowKit Go.Proofs.YtmgpaccgjafjeaaW.PrintWords
theorem hw_bt_l (a b : ByteArray) (i : Int) (h : i.toNat < a.size) : bt (a ++ b) i = bt a i := by
  unfold bt
  rw [dif_pos h, dif_pos (by rw [ByteArray.size_append]; omega)]
  rw [ByteArray.getElem_append_left]
theorem hw_bt_r (a b : ByteArray) (i : Int) (h : a.size ≤ i.toNat) : bt (a ++ b) i = bt b (i - a.size) := by
  unfold bt
  by_cases h2 : i.toNat < (a ++ b).size
  · rw [ByteArray.size_append] at h2
    rw [dif_pos (by rw [ByteArray.size_append]; omega), dif_pos (by omega), ByteArray.getElem_append_right (by omega)]
    congr 2
    congr 1
    omega
  · rw [dif_neg h2, dif_neg (by rw [ByteArray.size_append] at h2; omega)]
theorem hw_bt_n (xs : List Int) (i : Int) (h : i.toNat < xs.length) (h0 : 0 ≤ xs[i.toNat]) (h1 : xs[i.toNat] ≤ 255) : bt (strOfNums xs) i = xs[i.toNat] := by
  unfold bt
  rw [dif_pos (by simpa [strOfNums, ByteArray.size] using h)]
  simp [strOfNums, ByteArray.getElem_eq_getElem_data]
  omega
theorem hw_bt_x (a : ByteArray) (m n : Nat) (i : Int) (h : i.toNat < (a.extract m n).size) : bt (a.extract m n) i = bt a (m + i.toNat : Nat) := by
  have h' := h
  rw [ByteArray.size_extract] at h'
  unfold bt
  rw [dif_pos h, dif_pos (by simp only [Int.toNat_natCast]; omega), ByteArray.getElem_extract]
  simp only [Int.toNat_natCast]
theorem hw_ext (a b : ByteArray) (h : a.size = b.size) (hb : ∀ i : Nat, i < a.size → bt a i = bt b i) : a = b := by
  refine ByteArray.ext (Array.ext h fun i h1 h2 => ?_)
  have := hb i h1
  unfold bt at this
  rw [dif_pos (by simpa using h1), dif_pos (by simpa using h2)] at this
  have this := Int.ofNat.inj this
  simpa [ByteArray.getElem_eq_getElem_data, ← UInt8.toNat_inj] using this
theorem hw_toList_inj {a b : ByteArray} (h : a.toList = b.toList) : a = b := by
  rw [ByteArray.toList_eq, ByteArray.toList_eq] at h
  exact ByteArray.ext (Array.ext' h)
theorem hw_strs (xs : List Int) : (strOfNums xs).size = xs.length := by simp [strOfNums, ByteArray.size]
theorem hw_at {w : World} {n : Nat} (h : n = w.heap.size) (o : Obj) : (w.alloc o).heap[n]? = some o := h ▸ blk_new w o
/-- string(b[:]), the row known whole. -/
theorem hw_conv {P : Program} {w : World} {src dst e t : TypeId} {g c : Nat} (xs : List Int) (hs : P.underlying src = some (.slice e)) (he : P.underlying e = some (.int .u8)) (hd : P.underlying dst = some .string) (hn : xs.length ≤ 9223372036854775807)
    (hb : w.heap[g]? = some (.cells (xs.map (Value.int .u8)).toArray t (0, 0))) : (convert src dst (.slice (some ⟨g, 0, none⟩) xs.length c)).run P w = .ok (.string (strOfNums xs)) w := by
  refine string_of_reads hs he hd ⟨rfl, hn, fun _ => ⟨_, rfl, fun j hj => ?_⟩⟩
  have : (⟨g, 0, none⟩ : Addr).add j = ⟨g, j, none⟩ := add_plain g j
  rw [this, blk_cell hb j]
  simp [hj]
theorem hw_below {W w1 : World} {g : Nat} {o : Obj} (h : W.heap[g]? = some o) (hb : Below W.heap.size W w1) : w1.heap[g]? = some o := (hb.block _ (blk_lt h)).trans h
theorem hw_bcell {W w1 : World} (hb : Below W.heap.size W w1) : (∀ b o, b < W.heap.size → w1.cell? ⟨b, o, none⟩ = W.cell? ⟨b, o, none⟩) ∧ (∀ b o, b < W.heap.size → w1.frozen? ⟨b, o, none⟩ = W.frozen? ⟨b, o, none⟩) :=
  ⟨fun b o h => hb.cell (p := ⟨b, o, none⟩) h, fun b o h => hb.frozen (p := ⟨b, o, none⟩) h⟩

/-- copy of a string into a row that is known whole, as a step of a region: the row behind it is known, and the other blocks stand. -/
theorem hw_copy_str {P : Program} {ops : Array Oper} {o : Oper} {a : Act} {w : World} {K : Act → World → Prop} {Q : Exit → Act → World → Prop} {E : Prop}
    (hg : o.guard = none) (d x : Operand) (dT sT : TypeId) (hop : o.op = Op.call { callee := Callee.builtin Builtin.copy, args := #[d, x], argTypes := #[dT, sT] })
    (elem : TypeId) (hu : P.underlying dT = some (.slice elem)) (hz : (P.info? elem).map (·.size) = some 1)
    (b off dLen dCap : Nat) (hd : a.eval d = .slice (some ⟨b, off, none⟩) dLen dCap) (t : ByteArray) (hx : a.eval x = .string t) (hle : t.size ≤ dLen)
    (cur : Array Value) (ty : TypeId) (hb : w.heap[b]? = some (.cells cur ty (0, 0))) (hfit : off + t.size ≤ cur.size)
    (hK : ∀ w' : World, w'.heap[b]? = some (.cells (cur.toList.take off ++ Lib.byteCells t.data.toList ++ cur.toList.drop (off + t.size)).toArray ty (0, 0)) →
      (∀ k, k ≠ b → w'.heap[k]? = w.heap[k]?) → w'.heap.size = w.heap.size → (∀ B w0, B ≤ b → Below B w0 w → Below B w0 w') → K (a.put o.dst (goInt t.size)) w') :
    if Region.wanted o (yielded ops a.tmps) = true then Oper.wp P o a w K Q else E := by
  have hw : Region.wanted o (yielded ops a.tmps) = true := by simp [Region.wanted, hg]
  rw [if_pos hw]
  have hrun := Lib.run_copy_row_string (P := P) w dT sT o.type elem b off dLen dCap t cur ty hu hz hb hle hfit
  unfold Oper.wp
  simp [execOp, hop, resolve, invoke, builtin, hd, hx, hrun, Result.andThen]
  refine hK _ ?_ ?_ ?_ ?_
  · have := setRow_heap w b cur (cur.toList.take off ++ Lib.byteCells t.data.toList ++ cur.toList.drop (off + t.size)).toArray ty (0, 0) hb
    simpa using this
  · exact fun k hk => setRow_other w b k _ hk
  · simp [World.setRow]
  · exact fun B w0 hB hb0 => hb0.trans ⟨rfl, rfl, rfl, by simp [World.setRow], fun k hk => setRow_other w b k _ (by omega)⟩
end Go.Proofs.YtmgpaccgjafjeaaHW
