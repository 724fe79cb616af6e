/- ipcpopt: addresses' texts: what is told is read: plain. -/
import Derived.Test.YtemddnccomeibaaDoorHIp4
namespace Go.Proofs.YtemddnccomeibaaDoorHIp
open Go.RowKit Go.Proofs.YtemddnccomeibaaDoorW.PrintWords Go.Proofs.YtemddnccomeibaaDoorHW Go.Proofs.YtemddnccomeibaaDoorHG Go.Proofs.YtemddnccomeibaaDoor.PG10
set_option linter.unusedVariables false
set_option linter.unusedSimpArgs false
def stepB (p : Int × Int) (c : UInt8) : Int × Int := step p c.toNat
def okD (n : Nat) : Bool := decide (Lib.parseUintB 8 (Lib.itoa (n : Int)) = .ok n) && (Lib.itoa (n : Int)).all (fun c => c != 46) && decide (((Lib.itoa (n : Int)).foldl (fun m c => ((m * 10 % 4294967296 + (c.toNat : Int) % 64) % 4294967296 - 48) % 4294967296) (0 : Int)) = (n : Int))
theorem okD_all : (List.range 256).all okD = true := by decide +kernel
theorem okD_at (n : Nat) (h : n < 256) : okD n = true := List.all_eq_true.1 okD_all n (List.mem_range.2 h)
def L (x : Int) : List UInt8 := Lib.itoa x
theorem L_ok {x : Int} (h0 : 0 ≤ x) (h1 : x < 256) : Lib.parseUintB 8 (L x) = .ok x.toNat ∧ (∀ c ∈ L x, c ≠ 46) ∧ (L x).foldl (fun m c => ((m * 10 % 4294967296 + (c.toNat : Int) % 64) % 4294967296 - 48) % 4294967296) (0 : Int) = x := by
  have z := okD_at x.toNat (by omega)
  unfold okD at z
  rw [show ((x.toNat : Nat) : Int) = x by omega] at z
  simp only [Bool.and_eq_true, decide_eq_true_eq, List.all_eq_true, bne_iff_ne, ne_eq] at z
  exact ⟨z.1.1, z.1.2, z.2⟩
theorem fold_no46 : ∀ (l : List UInt8) (v n : Int), (∀ c ∈ l, c ≠ 46) → l.foldl stepB (v, n) = (v, l.foldl (fun m c => ((m * 10 % 4294967296 + (c.toNat : Int) % 64) % 4294967296 - 48) % 4294967296) n)
  | [], v, n, _ => rfl
  | c :: l, v, n, h => by
    rw [List.foldl_cons, List.foldl_cons]
    have hc : c ≠ 46 := h c (by simp)
    have e : stepB (v, n) c = (v, ((n * 10 % 4294967296 + (c.toNat : Int) % 64) % 4294967296 - 48) % 4294967296) := by
      unfold stepB step
      rw [if_neg (fun e => hc (by apply UInt8.toNat_inj.mp; show c.toNat = 46; omega))]
    rw [e]
    exact fold_no46 l v _ (fun c hc => h c (by simp [hc]))
theorem fold_L {x : Int} (h0 : 0 ≤ x) (h1 : x < 256) (v : Int) : (L x).foldl stepB (v, 0) = (v, x) := by
  rw [fold_no46 _ _ _ (L_ok h0 h1).2.1, (L_ok h0 h1).2.2]
theorem run_fold (s : ByteArray) : ∀ i, i ≤ s.size → run s i = (s.data.toList.take i).foldl stepB (0, 0)
  | 0, _ => by simp [run]
  | i + 1, h => by
    unfold run
    rw [run_fold s i (by omega)]
    have hl : i < s.data.toList.length := by rw [Array.length_toList]; exact h
    rw [List.take_succ_eq_append_getElem hl, List.foldl_append]
    show step _ _ = stepB _ _
    unfold stepB
    congr 1
    rw [← bt_at s i h]
    simp [ByteArray.getElem_eq_getElem_data]
theorem refA_list (s : ByteArray) (l : List UInt8) (h : s.data.toList = l) : refA s = (l.foldl stepB (0, 0)).1 * 256 % 4294967296 + (l.foldl stepB (0, 0)).2 % 256 := by
  unfold refA
  rw [run_fold s s.size (Nat.le_refl _), List.take_of_length_le (by rw [Array.length_toList]; exact Nat.le_refl _), h]
def TL (x0 x1 x2 x3 : Int) : List UInt8 := L x0 ++ 46 :: (L x1 ++ 46 :: (L x2 ++ 46 :: L x3))
theorem dec_list (x : Int) : (decB x).data.toList = L x := by unfold decB L; rfl
theorem text_list (a : Int) : (textB a).data.toList = TL (a / 16777216 % 256) (a / 65536 % 256) (a / 256 % 256) (a % 256) := by
  rw [textB_eq]
  simp only [ByteArray.data_append, Array.toList_append, dec_list, TL]
  simp
theorem fold_46 (v n : Int) : stepB (v, n) 46 = (v * 256 % 4294967296 + n % 256, 0) := by unfold stepB step; exact if_pos rfl
theorem refA_text (a : Int) (h0 : 0 ≤ a) (h1 : a < 4294967296) : refA (textB a) = a := by
  rw [refA_list _ _ (text_list a)]
  unfold TL
  simp only [List.foldl_append, List.foldl_cons]
  rw [fold_L (by omega) (by omega), fold_46, fold_L (by omega) (by omega), fold_46, fold_L (by omega) (by omega), fold_46, fold_L (by omega) (by omega)]
  dsimp only
  omega
theorem pre46 (b : UInt8) (l : List UInt8) : ([46] : List UInt8).isPrefixOf (b :: l) = (46 == b) := by simp [List.isPrefixOf]
theorem index_at : ∀ (d r : List UInt8), (∀ c ∈ d, c ≠ 46) → Lib.index (d ++ 46 :: r) [46] = (d.length : Int)
  | [], r, _ => by
    show Lib.index (46 :: r) [46] = _
    unfold Lib.index
    rw [pre46]; rfl
  | c :: d, r, h => by
    show Lib.index (c :: (d ++ 46 :: r)) [46] = _
    unfold Lib.index
    have hc : c ≠ 46 := h c (by simp)
    rw [pre46, index_at d r (fun c hc => h c (by simp [hc]))]
    rw [if_neg (by simpa using fun e => hc e.symm), if_neg (by simp)]
    simp
theorem index_none : ∀ (d : List UInt8), (∀ c ∈ d, c ≠ 46) → Lib.index d [46] = -1
  | [], _ => by unfold Lib.index; rfl
  | c :: d, h => by
    unfold Lib.index
    have hc : c ≠ 46 := h c (by simp)
    rw [pre46, index_none d (fun c hc => h c (by simp [hc]))]
    rw [if_neg (by simpa using fun e => hc e.symm)]; rfl
theorem cut_at (s : ByteArray) (d r : List UInt8) (h : s.data.toList = d ++ 46 :: r) (hd : ∀ c ∈ d, c ≠ 46) : (cutT s).data.toList = d ∧ (cutR s).data.toList = r := by
  unfold cutT cutR Lib.cut
  rw [h, index_at d r hd, if_pos (by omega)]
  dsimp only
  rw [show ((d.length : Int)).toNat = d.length from Int.toNat_natCast _]
  constructor
  · rw [List.take_left']; rfl
  · show List.drop (d.length + 1) _ = r
    rw [← List.drop_drop, List.drop_left']
    · rfl
    · rfl
theorem cut_end (s : ByteArray) (hd : ∀ c ∈ s.data.toList, c ≠ 46) : (cutT s).data.toList = s.data.toList := by
  unfold cutT Lib.cut
  rw [index_none _ hd, if_neg (by omega)]
theorem pU8_L (t : ByteArray) (x : Int) (h0 : 0 ≤ x) (h1 : x < 256) (h : t.data.toList = L x) : pU8 t = x := by
  unfold pU8
  rw [h, (L_ok h0 h1).1]
  show ((x.toNat : Nat) : Int) = x
  omega
theorem readA_text (a : Int) (h0 : 0 ≤ a) (h1 : a < 4294967296) : readA (textB a) = a := by
  have e := text_list a
  unfold TL at e
  have q0 : 0 ≤ a / 16777216 % 256 ∧ a / 16777216 % 256 < 256 := by omega
  have q1 : 0 ≤ a / 65536 % 256 ∧ a / 65536 % 256 < 256 := by omega
  have q2 : 0 ≤ a / 256 % 256 ∧ a / 256 % 256 < 256 := by omega
  have q3 : 0 ≤ a % 256 ∧ a % 256 < 256 := by omega
  obtain ⟨c0, r0⟩ := cut_at _ _ _ e (L_ok q0.1 q0.2).2.1
  obtain ⟨c1, r1⟩ := cut_at _ _ _ r0 (L_ok q1.1 q1.2).2.1
  obtain ⟨c2, r2⟩ := cut_at _ _ _ r1 (L_ok q2.1 q2.2).2.1
  have c3 := cut_end (cutR (cutR (cutR (textB a)))) (by rw [r2]; exact (L_ok q3.1 q3.2).2.1)
  rw [r2] at c3
  unfold readA rd1
  rw [pU8_L _ _ q0.1 q0.2 c0, pU8_L _ _ q1.1 q1.2 c1, pU8_L _ _ q2.1 q2.2 c2, pU8_L _ _ q3.1 q3.2 c3]
  omega
theorem text_size (a : Int) : (textB a).size ≤ 15 := by
  have q0 : 0 ≤ a / 16777216 % 256 ∧ a / 16777216 % 256 < 256 := by omega
  have q1 : 0 ≤ a / 65536 % 256 ∧ a / 65536 % 256 < 256 := by omega
  have q2 : 0 ≤ a / 256 % 256 ∧ a / 256 % 256 < 256 := by omega
  have q3 : 0 ≤ a % 256 ∧ a % 256 < 256 := by omega
  have d0 := (dec_size q0.1 q0.2).1
  have d1 := (dec_size q1.1 q1.2).1
  have d2 := (dec_size q2.1 q2.2).1
  have d3 := (dec_size q3.1 q3.2).1
  rw [textB_eq]
  simp only [ByteArray.size_append]
  have z : (⟨#[46]⟩ : ByteArray).size = 1 := rfl
  have z0 : (⟨#[]⟩ : ByteArray).size = 0 := rfl
  omega
theorem readA_range (s : ByteArray) : 0 ≤ readA s ∧ readA s < 4294967296 := by
  unfold readA rd1
  have a0 := pU8_range (cutT s)
  have a1 := pU8_range (cutT (cutR s))
  have a2 := pU8_range (cutT (cutR (cutR s)))
  have a3 := pU8_range (cutT (cutR (cutR (cutR s))))
  omega
theorem refA_range (s : ByteArray) : 0 ≤ refA s ∧ refA s < 4294967296 := by
  unfold refA
  have := run_range s s.size
  omega
/-- The program reads what the document reads. -/
theorem read_same (s : ByteArray) : readK s = refK s := by
  unfold readK refK
  by_cases c : textB (readA s) = s
  · have e : refA s = readA s := by
      have := refA_text (readA s) (readA_range s).1 (readA_range s).2
      rw [c] at this
      exact this
    have hs := text_size (readA s)
    rw [c] at hs
    rw [if_pos c, if_pos ⟨hs, by rw [e]; exact c⟩, e]
  · rw [if_neg c]
    by_cases c2 : s.size ≤ 15 ∧ textB (refA s) = s
    · have e : readA s = refA s := by
        have := readA_text (refA s) (refA_range s).1 (refA_range s).2
        rw [c2.2] at this
        exact this
      rw [e] at c
      exact absurd c2.2 c
    · rw [if_neg c2]
theorem readK_text (a : Int) (h0 : 0 ≤ a) (h1 : a < 4294967296) : readK (textB a) = (a, 0) := by
  unfold readK
  rw [readA_text a h0 h1, if_pos rfl]
theorem text_inj {a b : Int} (h0 : 0 ≤ a) (h1 : a < 4294967296) (h2 : 0 ≤ b) (h3 : b < 4294967296) (h : textB a = textB b) : a = b := by
  have := readA_text a h0 h1
  rw [h, readA_text b h2 h3] at this
  exact this.symm
theorem readK_ok {s : ByteArray} (h : (readK s).2 = 0) : textB (readK s).1 = s := by
  unfold readK at h ⊢
  split at h
  · rename_i c; rw [if_pos c]; exact c
  · exact absurd h (by decide)
end Go.Proofs.YtemddnccomeibaaDoorHIp
