/- The walk of the law halyard/halyardlaw01.OctetRows: the call returns true, whatever the input; no condition. -/
import Derived.Test.YtdojpjiiihmdoaaPG01x0
import Derived.Test.YtdojpjiiihmdoaaPG01x1
import Derived.Test.YtdojpjiiihmdoaaPG01x2
import Derived.Test.YtdojpjiiihmdoaaPG01x3
import Derived.Test.YtdojpjiiihmdoaaPG01x4
import Derived.Test.YtdojpjiiihmdoaaPG01x5
import Derived.Test.YtdojpjiiihmdoaaPG01x6
import Derived.Test.YtdojpjiiihmdoaaPG01x7
import Derived.Test.YtdojpjiiihmdoaaPG01x8
import Derived.Test.YtdojpjiiihmdoaaPG01x9
import Derived.Test.YtdojpjiiihmdoaaPG01x10
import Derived.Test.YtdojpjiiihmdoaaPG01x11
import Derived.Test.YtdojpjiiihmdoaaPG01x12
import Derived.Test.YtdojpjiiihmdoaaHW
namespace Go.Proofs.Ytdojpjiiihmdoaa.PG01
open Go.RowKit Go.Proofs.YtdojpjiiihmdoaaW.PrintWords Go.Proofs.YtdojpjiiihmdoaaW.PrintLast Go.Proofs.YtdojpjiiihmdoaaW.PrintMore Go.Proofs.YtdojpjiiihmdoaaHW
attribute [local go_sem] max2_int min2_int max_two min_two max_three min_three max_four min_four
set_option linter.unusedVariables false
set_option linter.unusedSimpArgs false
set_option linter.unusedVariables false
/-! Plain facts on octet's texts. -/
theorem op_strs_append (xs ys : List Int) : strOfNums xs ++ strOfNums ys = strOfNums (xs ++ ys) := by
  refine ByteArray.ext ?_
  rw [ByteArray.data_append]
  simp [strOfNums]
def enc1 (s : ByteArray) : ByteArray := strOfNums [(s.size : Int)] ++ s
def enc : List ByteArray → ByteArray
  | [] => ⟨#[]⟩
  | x :: r => enc1 x ++ enc r
def small (l : List ByteArray) : Prop := ∀ x ∈ l, x.size ≤ 255
theorem op_nil_append (a : ByteArray) : (⟨#[]⟩ : ByteArray) ++ a = a := ByteArray.empty_append
theorem op_append_nil (a : ByteArray) : a ++ (⟨#[]⟩ : ByteArray) = a := ByteArray.append_empty
theorem enc1_size (s : ByteArray) : (enc1 s).size = s.size + 1 := by
  unfold enc1; rw [ByteArray.size_append, hw_strs]; simp; omega
theorem enc_append : ∀ (l m : List ByteArray), enc (l ++ m) = enc l ++ enc m
  | [], m => by rw [List.nil_append]; show _ = (⟨#[]⟩ : ByteArray) ++ _; rw [op_nil_append]
  | x :: r, m => by
    show enc1 x ++ enc (r ++ m) = enc1 x ++ enc r ++ enc m
    rw [enc_append r m, ByteArray.append_assoc]
theorem op_empty_of {s : ByteArray} (h : s.toList = ([] : List UInt8)) : s = ⟨#[]⟩ := by
  rw [ByteArray.toList_eq] at h
  exact ByteArray.ext (by simpa using h)
theorem op_size_of {s : ByteArray} : s.toList = ([] : List UInt8) ↔ s.size = 0 := by
  rw [ByteArray.toList_eq]
  constructor
  · intro h; have := congrArg List.length h; rw [Array.length_toList] at this; exact this
  · intro h; exact List.eq_nil_of_length_eq_zero (by rw [Array.length_toList]; exact h)
theorem text8_val (s : ByteArray) : octet_Text8.f s = if s.size ≤ 255 then some (enc1 s, 0) else some (⟨#[]⟩, 5) := by
  unfold octet_Text8.f enc1
  by_cases h : s.size ≤ 255
  · rw [if_neg (by omega), if_pos h]
    simp only [Option.bind_some]
    rw [if_pos (by rw [hw_strs]; simp only [List.length_cons, List.length_nil]; omega), show (s.size : Int) % 256 = s.size from by omega]
  · rw [if_pos (by omega), if_neg h]
/-- What Read8 tells: the first text and the rest, or an end. -/
theorem read8_val (s : ByteArray) (hs : s.size ≤ 9000000000000000000) : (∃ t rest, octet_Read8.f s = some (t, rest, 0) ∧ t.size ≤ 255 ∧ s = enc1 t ++ rest ∧ t = s.extract 1 (1 + (bt s 0).toNat) ∧ rest = s.extract (1 + (bt s 0).toNat) s.size ∧ 0 < s.size ∧ bt s 0 < s.size) ∨
    (octet_Read8.f s = some (⟨#[]⟩, ⟨#[]⟩, 6) ∧ (s.size = 0 ∨ (s.size : Int) ≤ bt s 0)) := by
  have b := bt_range s 0
  unfold octet_Read8.f
  by_cases c0 : s.toList = ([] : List UInt8)
  · rw [if_pos c0]; exact .inr ⟨rfl, .inl (op_size_of.1 c0)⟩
  have hp : 0 < s.size := by have := mt op_size_of.2 c0; omega
  have e1 : wrap64 (bt s 0) = bt s 0 := by unfold wrap64; omega
  have e2 : wrap64 (1 + bt s 0) = 1 + bt s 0 := by unfold wrap64; omega
  rw [if_neg c0, e1, e2, if_pos (by omega)]
  by_cases c1 : (s.size : Int) ≤ bt s 0
  · rw [if_pos c1]; exact .inr ⟨rfl, .inr c1⟩
  rw [if_neg c1, if_pos (by omega), if_pos (by omega), if_pos (by omega)]
  obtain ⟨n, hn⟩ : ∃ n : Nat, (n : Int) = bt s 0 := ⟨(bt s 0).toNat, by omega⟩
  rw [show (1 + bt s 0).toNat = 1 + n from by omega, show (bt s 0).toNat = n from by omega]
  have h1 : (s.extract 1 (1 + n)).size = n := by rw [ByteArray.size_extract]; omega
  have h2 : (s.extract (1 + n) s.size).size = s.size - (1 + n) := by rw [ByteArray.size_extract]; omega
  refine .inl ⟨_, _, rfl, by omega, ?_, rfl, rfl, hp, by omega⟩
  refine hw_ext _ _ (by rw [ByteArray.size_append, enc1_size, h1, h2]; omega) (fun i hi => ?_)
  unfold enc1
  rw [h1]
  by_cases i0 : i = 0
  · subst i0
    rw [hw_bt_l _ _ _ (by rw [ByteArray.size_append, hw_strs]; simp only [List.length_cons, List.length_nil, Int.toNat_natCast]; omega), hw_bt_l _ _ _ (by rw [hw_strs]; simp), hw_bt_n _ _ (by simp) (by simp) (by simp; omega)]
    simpa using hn.symm
  · by_cases i1 : i < 1 + n
    · rw [hw_bt_l _ _ _ (by rw [ByteArray.size_append, hw_strs, h1]; simp; omega), hw_bt_r _ _ _ (by rw [hw_strs]; simp; omega), hw_strs, hw_bt_x _ _ _ _ (by rw [h1]; simp; omega)]
      congr 1; simp; omega
    · rw [hw_bt_r _ _ _ (by rw [ByteArray.size_append, hw_strs, h1]; simp; omega), ByteArray.size_append, hw_strs, h1, hw_bt_x _ _ _ _ (by rw [h2]; simp; omega)]
      congr 1; simp; omega
/-- Of bytes that begin with a text's, Read8 gives that text, and the rest. -/
theorem read8_enc (t rest : ByteArray) (ht : t.size ≤ 255) (hs : (enc1 t ++ rest).size ≤ 9000000000000000000) : octet_Read8.f (enc1 t ++ rest) = some (t, rest, 0) := by
  have hb : bt (enc1 t ++ rest) 0 = t.size := by
    rw [hw_bt_l _ _ _ (by rw [enc1_size]; simp)]
    unfold enc1
    rw [hw_bt_l _ _ _ (by rw [hw_strs]; simp), hw_bt_n _ _ (by simp) (by simp) (by simp; omega)]
    simp
  have hz : (enc1 t ++ rest).size = t.size + 1 + rest.size := by rw [ByteArray.size_append, enc1_size]
  rcases read8_val _ hs with ⟨t', rest', h, ht', he, h1, h2, _, _⟩ | ⟨_, h | h⟩
  · rw [h]
    rw [hb] at h1 h2
    have e1 : t' = t := by
      rw [h1]
      refine hw_ext _ _ (by rw [ByteArray.size_extract, hz]; simp; omega) (fun i hi => ?_)
      rw [ByteArray.size_extract, hz] at hi
      simp only [Int.toNat_natCast] at hi ⊢
      rw [hw_bt_x _ _ _ _ (by rw [ByteArray.size_extract, hz]; simp; omega), hw_bt_l _ _ _ (by rw [enc1_size]; simp; omega)]
      unfold enc1
      rw [hw_bt_r _ _ _ (by rw [hw_strs]; simp; omega), hw_strs]
      congr 1; simp; omega
    have e2 : rest' = rest := by
      rw [h2]
      refine hw_ext _ _ (by rw [ByteArray.size_extract, hz]; simp; omega) (fun i hi => ?_)
      rw [ByteArray.size_extract, hz] at hi
      simp only [Int.toNat_natCast] at hi ⊢
      rw [hw_bt_x _ _ _ _ (by rw [ByteArray.size_extract, hz]; simp; omega), hw_bt_r _ _ _ (by rw [enc1_size]; simp; omega), enc1_size]
      congr 1; simp; omega
    rw [e1, e2]
  · omega
  · rw [hb] at h; omega
theorem op_ext_iff {a b : ByteArray} : a.toList = b.toList ↔ a = b := ⟨hw_toList_inj, fun h => by rw [h]⟩
theorem enc_size_le : ∀ l : List ByteArray, l.length ≤ (enc l).size
  | [] => Nat.zero_le _
  | x :: r => by
    have := enc_size_le r
    show (r.length + 1) ≤ (enc1 x ++ enc r).size
    rw [ByteArray.size_append, enc1_size]; omega
/-- Splitting what was joined. -/
theorem split_enc : ∀ (l acc : List ByteArray) (k : Nat), small l → (enc l).size ≤ 1000000000000 → acc.length + l.length ≤ 1000000000000 → l.length < k → octet_Split8.l0 k (enc l) acc = some (acc ++ l, 0)
  | [], acc, k, _, _, _, hk => by
    obtain ⟨k, rfl⟩ : ∃ m, k = m + 1 := ⟨k - 1, by omega⟩
    simp only [octet_Split8.l0]
    rw [if_pos (op_size_of.2 rfl), List.append_nil]
  | x :: r, acc, k, hs, hz, ha, hk => by
    obtain ⟨k, rfl⟩ : ∃ m, k = m + 1 := ⟨k - 1, by simp at hk; omega⟩
    have hz' : (enc1 x ++ enc r).size ≤ 1000000000000 := hz
    have hx := hs x (by simp)
    have h1 := read8_enc x (enc r) hx (by omega)
    rw [ByteArray.size_append, enc1_size] at hz'
    simp only [List.length_cons] at ha hk
    show octet_Split8.l0 (k + 1) (enc1 x ++ enc r) acc = _
    simp only [octet_Split8.l0]
    rw [if_neg (by rw [op_size_of, ByteArray.size_append, enc1_size]; omega), h1]
    simp only [Option.bind_some, if_true]
    rw [if_pos (by omega), split_enc r (acc ++ [x]) k (fun y hy => hs y (by simp [hy])) (by omega) (by simp; omega) (by omega)]
    simp
/-- Whatever is split: it ends well just if it is a row's bytes. -/
theorem split_any : ∀ (n : Nat) (s : ByteArray) (acc : List ByteArray) (k : Nat), s.size = n → n ≤ 1000000000000 → acc.length + n ≤ 1000000000000 → n < k →
    (∃ l, octet_Split8.l0 k s acc = some (acc ++ l, 0) ∧ small l ∧ enc l = s ∧ l.length ≤ n) ∨ octet_Split8.l0 k s acc = some ([], 6) := by
  intro n
  induction n using Nat.strongRecOn with
  | _ n ih =>
    intro s acc k hn hz ha hk
    obtain ⟨k, rfl⟩ : ∃ m, k = m + 1 := ⟨k - 1, by omega⟩
    simp only [octet_Split8.l0]
    by_cases c : s.toList = ([] : List UInt8)
    · rw [if_pos c]
      exact .inl ⟨[], by simp, fun x hx => by simp at hx, (op_empty_of c).symm, Nat.zero_le _⟩
    · rw [if_neg c]
      rcases read8_val s (by omega) with ⟨t, rest, h, ht, he, _⟩ | ⟨h, _⟩
      · rw [h]
        simp only [Option.bind_some, if_true]
        have hzs : s.size = t.size + 1 + rest.size := by rw [he, ByteArray.size_append, enc1_size]
        rw [if_pos (by omega)]
        rcases ih rest.size (by omega) rest (acc ++ [t]) k rfl (by omega) (by simp; omega) (by omega) with ⟨l, h1, h2, h3, h4⟩ | h1
        · refine .inl ⟨t :: l, by rw [h1]; simp, fun x hx => ?_, by rw [he, ← h3]; rfl, by simp; omega⟩
          rcases List.mem_cons.1 hx with rfl | hx
          · exact ht
          · exact h2 x hx
        · exact .inr h1
      · rw [h]
        exact .inr rfl
/-- Joining. -/
theorem join_val : ∀ (l : List ByteArray) (a : ByteArray), (small l → a.size + (enc l).size ≤ 1000000000000 → octet_Join8.acc a l = some (a ++ enc l, 0)) ∧ (¬ small l → (∀ x ∈ l, x.size ≤ 140737488351232) → a.size + 300 * l.length ≤ 1000000000000 → octet_Join8.acc a l = some (⟨#[]⟩, 5))
  | [], a => ⟨fun _ _ => by simp only [octet_Join8.acc]; show _ = some (a ++ ⟨#[]⟩, 0); rw [op_append_nil], fun h => absurd (fun x hx => by simp at hx) h⟩
  | x :: r, a => by
    obtain ⟨ih1, ih2⟩ := join_val r (a ++ enc1 x)
    refine ⟨fun hs hz => ?_, fun hs hb hz => ?_⟩
    · have hx := hs x (by simp)
      have hz' : a.size + (enc1 x ++ enc r).size ≤ 1000000000000 := hz
      rw [ByteArray.size_append, enc1_size] at hz'
      simp only [octet_Join8.acc, text8_val]
      rw [if_pos hx]
      simp only [Option.bind_some, if_true]
      rw [if_pos (by rw [enc1_size]; omega), ih1 (fun y hy => hs y (by simp [hy])) (by rw [ByteArray.size_append, enc1_size]; omega)]
      show _ = some (a ++ (enc1 x ++ enc r), 0)
      rw [ByteArray.append_assoc]
    · simp only [octet_Join8.acc, text8_val]
      simp only [List.length_cons] at hz
      by_cases hx : x.size ≤ 255
      · rw [if_pos hx]
        simp only [Option.bind_some, if_true]
        rw [if_pos (by rw [enc1_size]; omega), ih2 (fun h => hs (fun y hy => by
          rcases List.mem_cons.1 hy with rfl | hy
          · exact hx
          · exact h y hy)) (fun y hy => hb y (by simp [hy])) (by rw [ByteArray.size_append, enc1_size]; omega)]
      · rw [if_neg hx]
        simp
theorem enc_inj : ∀ {l m : List ByteArray}, small l → small m → (enc l).size ≤ 1000000000000 → enc l = enc m → l = m := by
  intro l m hl hm hz h
  have h1 := split_enc l [] ((enc l).size + 1) hl hz (by have := enc_size_le l; simp; omega) (by have := enc_size_le l; omega)
  have h2 := split_enc m [] ((enc l).size + 1) hm (by rw [← h]; exact hz) (by have := enc_size_le m; rw [← h] at this; simp; omega) (by have := enc_size_le m; rw [← h] at this; omega)
  rw [← h, h1] at h2
  simpa using h2
theorem same_loop (l m : List ByteArray) (h : l.length = m.length) (hz : l.length ≤ 1000000000000) : ∀ (d k i : Nat), l.length - i = d → i ≤ l.length → d < k → halyardref01_Same.l0 k l m (i : Int) = some (decide (l.drop i = m.drop i)) := by
  intro d
  induction d with
  | zero =>
    intro k i hd hi hk
    obtain ⟨k, rfl⟩ : ∃ m, k = m + 1 := ⟨k - 1, by omega⟩
    simp only [halyardref01_Same.l0]
    rw [if_neg (by omega), List.drop_eq_nil_of_le (by omega), List.drop_eq_nil_of_le (by omega)]
    simp
  | succ d ih =>
    intro k i hd hi hk
    obtain ⟨k, rfl⟩ : ∃ m, k = m + 1 := ⟨k - 1, by omega⟩
    have h1 : i < l.length := by omega
    have h2 : i < m.length := by omega
    simp only [halyardref01_Same.l0]
    rw [if_pos (by omega), if_pos (by omega), if_pos (by omega), show wrap64 ((i : Int) + 1) = ((i + 1 : Nat) : Int) from by unfold wrap64; omega, ih k (i + 1) (by omega) (by omega) (by omega), List.drop_eq_getElem_cons h1, List.drop_eq_getElem_cons h2]
    simp only [rdOf, Int.toNat_natCast, List.getD_eq_getElem?_getD, List.getElem?_eq_getElem h1, List.getElem?_eq_getElem h2, Option.getD_some]
    by_cases c : l[i].toList = m[i].toList
    · rw [if_pos c, hw_toList_inj c]; simp only [List.cons.injEq, true_and]
    · rw [if_neg c]
      have : l[i] ≠ m[i] := fun e => c (by rw [e])
      simp only [List.cons.injEq, this, false_and, decide_false]
theorem same_val (l m : List ByteArray) (hz : l.length ≤ 1000000000000) (k : Nat) (hk : l.length < k) : halyardref01_Same.f k l m = some (decide (l = m)) := by
  unfold halyardref01_Same.f
  by_cases h : l.length = m.length
  · rw [if_pos (by rw [h])]
    have := same_loop l m h hz l.length k 0 (by omega) (by omega) hk
    simpa using this
  · rw [if_neg (by omega)]
    have : l ≠ m := fun e => h (by rw [e])
    simp [this]
def tot (l : List ByteArray) : Nat := (l.map ByteArray.size).sum
theorem enc_size : ∀ l : List ByteArray, (enc l).size = tot l + l.length
  | [] => rfl
  | x :: r => by
    show (enc1 x ++ enc r).size = _
    rw [ByteArray.size_append, enc1_size, enc_size r]
    simp [tot]; omega
theorem tot_take_succ (l : List ByteArray) (i : Nat) (h : i < l.length) : tot (l.take (i + 1)) = tot (l.take i) + l[i].size := by
  unfold tot
  rw [List.take_succ_eq_append_getElem h, List.map_append, List.sum_append]
  simp only [List.map_cons, List.map_nil, List.sum_cons, List.sum_nil]
  omega
theorem tot_le (l : List ByteArray) (B : Nat) (hb : ∀ x ∈ l, x.size ≤ B) : tot l ≤ B * l.length := by
  induction l with
  | nil => simp [tot]
  | cons x r ih =>
    have h1 := ih (fun y hy => hb y (by simp [hy]))
    have h2 := hb x (by simp)
    simp only [tot, List.map_cons, List.sum_cons, List.length_cons] at *
    rw [Nat.mul_add]; omega
theorem long_loop (l : List ByteArray) (hb : ∀ x ∈ l, x.size ≤ 140737488351232) : ∀ (d k i : Nat), min l.length 400 - i = d → i ≤ min l.length 400 → d < k →
    halyardlaw01_Long.l0 k l (tot (l.take i) : Nat) (i : Int) = some (if (l.length : Int) > 300 then true else decide (((tot (l.take (min l.length 400)) : Nat) : Int) > 32768)) := by
  intro d
  induction d with
  | zero =>
    intro k i hd hi hk
    obtain ⟨k, rfl⟩ : ∃ m, k = m + 1 := ⟨k - 1, by omega⟩
    obtain rfl : i = min l.length 400 := by omega
    simp only [halyardlaw01_Long.l0]
    by_cases c : l.length < 400
    · rw [if_neg (by omega)]; split <;> rfl
    · by_cases c2 : ((min l.length 400 : Nat) : Int) < l.length
      · rw [if_pos c2, if_neg (by omega)]; split <;> rfl
      · rw [if_neg c2]; split <;> rfl
  | succ d ih =>
    intro k i hd hi hk
    obtain ⟨k, rfl⟩ : ∃ m, k = m + 1 := ⟨k - 1, by omega⟩
    have h1 : i < l.length := by omega
    simp only [halyardlaw01_Long.l0]
    have ht := tot_le (l.take i) 140737488351232 (fun x hx => hb x (List.mem_of_mem_take hx))
    have hx := hb l[i] (List.getElem_mem h1)
    have hl : (l.take i).length ≤ 400 := by rw [List.length_take]; omega
    have hr : rdOf ByteArray.empty l (i : Int) = l[i] := by simp [rdOf, List.getD_eq_getElem?_getD, List.getElem?_eq_getElem h1]
    rw [if_pos (by omega), if_pos (by omega), if_pos (by omega), hr, show wrap64 ((i : Int) + 1) = ((i + 1 : Nat) : Int) from by unfold wrap64; omega,
      show wrap64 (((tot (l.take i) : Nat) : Int) + (l[i].size : Int)) = ((tot (l.take (i + 1)) : Nat) : Int) from by rw [tot_take_succ l i h1]; unfold wrap64; omega]
    exact ih k (i + 1) (by omega) (by omega) (by omega)
/-- What is not long is small altogether. -/
theorem long_val (l : List ByteArray) (hb : ∀ x ∈ l, x.size ≤ 140737488351232) (k : Nat) (hk : 400 < k) : ∃ b, halyardlaw01_Long.f k l = some b ∧ (b = false → l.length ≤ 300 ∧ (enc l).size ≤ 40000) := by
  have h := long_loop l hb (min l.length 400) k 0 (by omega) (by omega) (by omega)
  refine ⟨_, h, fun hf => ?_⟩
  by_cases c : (l.length : Int) > 300
  · rw [if_pos c] at hf; simp at hf
  · rw [if_neg c] at hf
    have h1 : l.take (min l.length 400) = l := List.take_of_length_le (by omega)
    rw [h1] at hf
    have h2 : ¬ ((tot l : Nat) : Int) > 32768 := of_decide_eq_false hf
    refine ⟨by omega, ?_⟩
    rw [enc_size]; omega
theorem read8_ref (s : ByteArray) : halyardref01_Read8.f s = octet_Read8.f s := by
  have b := bt_range s 0
  have e1 : wrap64 (bt s 0) = bt s 0 := by unfold wrap64; omega
  have e2 : wrap64 (1 + bt s 0) = 1 + bt s 0 := by unfold wrap64; omega
  unfold halyardref01_Read8.f octet_Read8.f
  rw [e1, e2]
  by_cases c0 : s.toList = ([] : List UInt8)
  · rw [if_pos c0, if_pos c0]
  rw [if_neg c0, if_neg c0]
  by_cases c1 : (s.size : Int) ≤ bt s 0
  · rw [if_pos c1, if_pos (show (s.size : Int) < 1 + bt s 0 by omega)]
  · rw [if_neg c1, if_neg (show ¬ (s.size : Int) < 1 + bt s 0 by omega)]
theorem split8_ref : ∀ (k : Nat) (s : ByteArray) (acc : List ByteArray), halyardref01_Split8.l0 k s acc = octet_Split8.l0 k s acc
  | 0, _, _ => rfl
  | k + 1, s, acc => by
    simp only [halyardref01_Split8.l0, octet_Split8.l0, read8_ref, split8_ref k]
theorem text8_ref (s : ByteArray) : halyardref01_Text8.f s = octet_Text8.f s := by
  rw [text8_val]
  unfold halyardref01_Text8.f enc1
  by_cases h : s.size ≤ 255
  · rw [if_neg (by omega), if_pos h]
  · rw [if_pos (by omega), if_neg h]
theorem join_ref (l : List ByteArray) (hl : l.length ≤ 1000) (hb : ∀ x ∈ l, x.size ≤ 140737488351232) : ∀ (d k i : Nat) (a : ByteArray), l.length - i = d → i ≤ l.length → d < k → a.size + 300 * d ≤ 1000000000 →
    halyardref01_Join8.l0 k l a (i : Int) = octet_Join8.acc a (l.drop i) := by
  intro d
  induction d with
  | zero =>
    intro k i a hd hi hk ha
    obtain ⟨k, rfl⟩ : ∃ m, k = m + 1 := ⟨k - 1, by omega⟩
    simp only [halyardref01_Join8.l0]
    rw [if_neg (by omega), List.drop_eq_nil_of_le (by omega)]
    rfl
  | succ d ih =>
    intro k i a hd hi hk ha
    obtain ⟨k, rfl⟩ : ∃ m, k = m + 1 := ⟨k - 1, by omega⟩
    have h1 : i < l.length := by omega
    have hr : rdOf ByteArray.empty l (i : Int) = l[i] := by simp [rdOf, List.getD_eq_getElem?_getD, List.getElem?_eq_getElem h1]
    simp only [halyardref01_Join8.l0]
    rw [if_pos (by omega), if_pos (by omega), hr, text8_ref, text8_val, List.drop_eq_getElem_cons h1]
    simp only [octet_Join8.acc, text8_val]
    by_cases hx : l[i].size ≤ 255
    · rw [if_pos hx]
      simp only [Option.bind_some, if_true]
      rw [if_pos (by rw [enc1_size]; omega), if_pos (by rw [enc1_size]; omega), show wrap64 ((i : Int) + 1) = ((i + 1 : Nat) : Int) from by unfold wrap64; omega, ih k (i + 1) _ (by omega) (by omega) (by omega) (by rw [ByteArray.size_append, enc1_size]; omega)]
    · rw [if_neg hx]
      rfl
theorem alive_true (k : Nat) (h : 9 ≤ k) : halyardlaw01_alive.f k = some true := at_rounds (g := halyardlaw01_alive.f) halyardlaw01_alive.mono h (show halyardlaw01_alive.f 9 = some true by decide +kernel)
theorem halyardlaw01_OctetRows.info : (Try.prog.info? 9).map (fun i => (i.zero, i.size, i.bytes)) = some (some (.string ⟨#[]⟩), 1, 16) := by kernel_rfl
set_option maxRecDepth 100000 in
set_option maxHeartbeats 2000000 in
theorem halyardlaw01_OctetRows.run (A0 : Option Addr) (c0 : Nat) (l0 : List ByteArray) (a1 : ByteArray) (w : World)
    (hr0 : Kd.C Kd.string w A0 l0.length l0) (hc0 : l0.length ≤ c0) (hI0 : l0.length ≤ maxLen ∧ l0.length * Try.prog.bytesOf 9 ≤ 140737488351232 ∧ ∀ x ∈ l0, x.size ≤ 140737488351232) (_z1 : a1.size ≤ 140737488351232) :
    Calls Try.prog 12 #[.slice A0 l0.length c0, .string a1] w fun e w' => e = .returned (.bool true) ∧ Below w.heap.size w w' := by
  have HB := Aside0.mk (Below.refl w.heap.size w)
  obtain ⟨b, hb, hb2⟩ := long_val l0 hI0.2.2 1000 (by decide)
  have hlen : (l0.length : Int) ≤ 9223372036854775807 := by have := hr0.2.1; omega
  have HL := Aside0.mk hb
  have HR := Aside0.mk hr0
  replace hc0 := Aside0.mk hc0
  have HI := Aside0.mk hI0.2.2
  clear hb hr0 hI0
  cases b with
  | true =>
    clear hb2
    go_enter Try.func12, Try.ntmps12
    go_wp2_with (first | (go_at_call 50; go_must (refine (halyardlaw01_Long.calls 1000 A0 c0 l0 _ _ HR.out hc0.out HL.out).mono ?_); rintro e w1 ⟨rfl, ⟨nd, rfl⟩⟩) | (go_at_call 23; (with_reducible refine (halyardlaw01_alive.calls 9 _ _ (alive_true 9 (by decide))).mono ?_); rintro e w1 ⟨rfl, hb1⟩; replace HB := Aside0.mk (below_step (by repeat (first | (with_reducible first | exact HB.out | apply below_alloc | apply pw_below_drewN | apply below_drew1 | apply below_drew) | (refine Below.setCell ?_ (by simp; omega) _))) hb1); clear hb1))
    go_ret
    exact ⟨rfl, by repeat (first | (with_reducible first | exact HB.out | apply below_alloc | apply pw_below_drewN | apply below_drew1 | apply below_drew) | (refine Below.setCell ?_ (by simp; omega) _))⟩
  | false =>
    obtain ⟨h1, h2⟩ := hb2 rfl
    clear hb2
    by_cases c1 : (a1.size : Int) > 32768
    · have c1' : 32768 < (a1.size : Int) := c1
      go_enter Try.func12, Try.ntmps12
      go_wp2_with (first | (go_at_call 50; go_must (refine (halyardlaw01_Long.calls 1000 A0 c0 l0 _ _ HR.out hc0.out HL.out).mono ?_); rintro e w1 ⟨rfl, ⟨nd, rfl⟩⟩) | (go_at_call 23; (with_reducible refine (halyardlaw01_alive.calls 9 _ _ (alive_true 9 (by decide))).mono ?_); rintro e w1 ⟨rfl, hb1⟩; replace HB := Aside0.mk (below_step (by repeat (first | (with_reducible first | exact HB.out | apply below_alloc | apply pw_below_drewN | apply below_drew1 | apply below_drew) | (refine Below.setCell ?_ (by simp; omega) _))) hb1); clear hb1))
      go_ret
      exact ⟨rfl, by repeat (first | (with_reducible first | exact HB.out | apply below_alloc | apply pw_below_drewN | apply below_drew1 | apply below_drew) | (refine Below.setCell ?_ (by simp; omega) _))⟩
    have c1' : (a1.size : Int) ≤ 32768 := by omega
    clear c1
    obtain ⟨j1, j2, hj⟩ : ∃ j1 j2, octet_Join8.f l0 = some (j1, j2) := by
      by_cases hs : small l0
      · exact ⟨_, _, (join_val l0 ⟨#[]⟩).1 hs (by show 0 + (enc l0).size ≤ _; omega)⟩
      · exact ⟨_, _, (join_val l0 ⟨#[]⟩).2 hs HI.out (by show 0 + 300 * l0.length ≤ _; omega)⟩
    have hj' : halyardref01_Join8.f 1000 l0 = some (j1, j2) := by
      rw [← hj]
      exact join_ref l0 (by omega) HI.out l0.length 1000 0 ⟨#[]⟩ (by omega) (by omega) (by omega) (by show 0 + 300 * l0.length ≤ _; omega)
    obtain ⟨s1, s2, hs⟩ : ∃ s1 s2, octet_Split8.f 100000 a1 = some (s1, s2) ∧ s1.length ≤ 40000 := by
      rcases split_any a1.size a1 [] 100000 rfl (by omega) (by simp; omega) (by omega) with ⟨l, h, _, _, h4⟩ | h
      · exact ⟨_, _, h, by simp; omega⟩
      · exact ⟨_, _, h, by simp⟩
    have hs' : halyardref01_Split8.f 100000 a1 = some (s1, s2) := (split8_ref _ _ _).trans hs.1
    obtain ⟨r1, r2, r3, hr⟩ : ∃ r1 r2 r3, octet_Read8.f a1 = some (r1, r2, r3) := by
      rcases read8_val a1 (by omega) with ⟨_, _, h, _⟩ | ⟨h, _⟩
      · exact ⟨_, _, _, h⟩
      · exact ⟨_, _, _, h⟩
    obtain ⟨t1, t2, ht⟩ : ∃ t1 t2, octet_Text8.f a1 = some (t1, t2) := by
      rw [text8_val]; split
      · exact ⟨_, _, rfl⟩
      · exact ⟨_, _, rfl⟩
    have HJ := Aside0.mk hj
    have HJ' := Aside0.mk hj'
    have HS := Aside0.mk hs.1
    have HS' := Aside0.mk hs'
    have HR8 := Aside0.mk hr
    have HR8' := Aside0.mk ((read8_ref a1).trans hr)
    have HT := Aside0.mk ht
    have HT' := Aside0.mk ((text8_ref a1).trans ht)
    have HSM := Aside0.mk (show halyardref01_Same.f 100000 s1 s1 = some true by rw [same_val s1 s1 (by omega) _ (by omega)]; simp)
    clear hj hj' hs hs' hr ht
    go_enter Try.func12, Try.ntmps12
    go_wp2_with (first | (go_at_call 50; go_must (refine (halyardlaw01_Long.calls 1000 A0 c0 l0 _ _ HR.out hc0.out HL.out).mono ?_); rintro e w1 ⟨rfl, ⟨nd, rfl⟩⟩) | ((with_reducible refine gate_builtin (b := .append) (xs := #[.const (.slice none 0 0), .tmp 32]) rfl ?_); go_must (refine Kd.R_append_row (w0 := w) Value.string ByteArray.empty w.heap.size rfl (.const (.slice none 0 0)) (.tmp 32) 79 9 (.string ⟨#[]⟩) 16 rfl Try.underlying79 halyardlaw01_OctetRows.info rfl (by decide) (.slice none 0 0) [] l0 A0 l0.length c0 (fun _ => True) rfl rfl (fun _ _ => trivial) (Kd.R_nil _ _ _ _ _) HR.out (by repeat (first | (with_reducible first | exact HB.out | apply below_alloc | apply pw_below_drewN | apply below_drew1 | apply below_drew) | (refine Below.setCell ?_ (by simp; omega) _))) HB.out.size (by simp; omega) ?_); go_must (intro v1 w1 ho hb1 hg hat; rw [List.nil_append] at ho; obtain ⟨AJ, cJ, rfl, hcJ, hCJ⟩ := Kd.R_reads ho; have HCJ := Aside0.mk hCJ; replace hcJ := Aside0.mk hcJ; have hb2 : Below _ _ w1 := ⟨hg.os, hg.tape, hg.output, hg.size, fun i hi => hg.block i hi (by simp [Value.ownBlock])⟩; have n_ := Aside0.mk ((fun h => Kd.C_below (d := Kd.string) (A := A0) (xs := l0) h hb2) HR.out); clear HR; have HR := n_; clear n_; replace HB := Aside0.mk (below_step (by repeat (first | (with_reducible first | exact HB.out | apply below_alloc | apply pw_below_drewN | apply below_drew1 | apply below_drew))) hb2); clear ho hb1 hg hat hb2 hCJ)) | (go_at_call 51; go_must (refine (octet_Join8.calls AJ cJ l0 j1 j2 _ HCJ.out hcJ.out HJ.out).mono ?_); rintro e w1 ⟨rfl, hb1⟩; have n_ := Aside0.mk ((fun h => Kd.C_below (d := Kd.string) (A := A0) (xs := l0) h hb1) HR.out); clear HR; have HR := n_; clear n_; replace HB := Aside0.mk (below_step (by repeat (first | (with_reducible first | exact HB.out | apply below_alloc | apply pw_below_drewN | apply below_drew1 | apply below_drew) | (refine Below.setCell ?_ (by simp; omega) _))) hb1); clear hb1) | (go_at_call 52; go_must (refine (halyardref01_Join8.calls 1000 A0 c0 l0 j1 j2 _ HR.out hc0.out HJ'.out).mono ?_); rintro e w1 ⟨rfl, hb1⟩; replace HB := Aside0.mk (below_step (by repeat (first | (with_reducible first | exact HB.out | apply below_alloc | apply pw_below_drewN | apply below_drew1 | apply below_drew) | (refine Below.setCell ?_ (by simp; omega) _))) hb1); clear hb1) | (go_at_call 53; go_must (refine (octet_Split8.calls 100000 _ s1 s2 _ HS.out).mono ?_); rintro e w1 ⟨v1, rfl, hs1, hb1⟩; obtain ⟨A1, c1, rfl, hc1, hC1⟩ := Kd.R_reads hs1; have HC1 := Aside0.mk hC1; replace hc1 := Aside0.mk hc1; replace HB := Aside0.mk (below_step (by repeat (first | (with_reducible first | exact HB.out | apply below_alloc | apply pw_below_drewN | apply below_drew1 | apply below_drew) | (refine Below.setCell ?_ (by simp; omega) _))) hb1); clear hb1 hs1 hC1) | (go_at_call 54; go_must (refine (halyardref01_Split8.calls 100000 _ s1 s2 _ HS'.out).mono ?_); rintro e w1 ⟨v1, rfl, hs1, hb1⟩; obtain ⟨A2, c2, rfl, hc2, hC2⟩ := Kd.R_reads hs1; have HC2 := Aside0.mk hC2; replace hc2 := Aside0.mk hc2; have n_ := Aside0.mk ((fun h => Kd.C_below (d := Kd.string) (A := A1) (xs := s1) h hb1) HC1.out); clear HC1; have HC1 := n_; clear n_; replace HB := Aside0.mk (below_step (by repeat (first | (with_reducible first | exact HB.out | apply below_alloc | apply pw_below_drewN | apply below_drew1 | apply below_drew) | (refine Below.setCell ?_ (by simp; omega) _))) hb1); clear hb1 hs1 hC2) | (go_at_call 55; go_must (refine (octet_Read8.calls _ _ _ _ _ HR8.out).mono ?_); rintro e w1 ⟨rfl, ⟨nd, rfl⟩⟩) | (go_at_call 56; go_must (refine (halyardref01_Read8.calls _ _ _ _ _ HR8'.out).mono ?_); rintro e w1 ⟨rfl, ⟨nd, rfl⟩⟩) | (go_at_call 57; go_must (refine (octet_Text8.calls _ _ _ _ HT.out).mono ?_); rintro e w1 ⟨rfl, hb1⟩; have n_ := Aside0.mk ((fun h => Kd.C_below (d := Kd.string) (A := A1) (xs := s1) h hb1) HC1.out); clear HC1; have HC1 := n_; clear n_; have n_ := Aside0.mk ((fun h => Kd.C_below (d := Kd.string) (A := A2) (xs := s1) h hb1) HC2.out); clear HC2; have HC2 := n_; clear n_; replace HB := Aside0.mk (below_step (by repeat (first | (with_reducible first | exact HB.out | apply below_alloc | apply pw_below_drewN | apply below_drew1 | apply below_drew) | (refine Below.setCell ?_ (by simp; omega) _))) hb1); clear hb1) | (go_at_call 58; go_must (refine (halyardref01_Text8.calls _ _ _ _ HT'.out).mono ?_); rintro e w1 ⟨rfl, hb1⟩; have n_ := Aside0.mk ((fun h => Kd.C_below (d := Kd.string) (A := A1) (xs := s1) h hb1) HC1.out); clear HC1; have HC1 := n_; clear n_; have n_ := Aside0.mk ((fun h => Kd.C_below (d := Kd.string) (A := A2) (xs := s1) h hb1) HC2.out); clear HC2; have HC2 := n_; clear n_; replace HB := Aside0.mk (below_step (by repeat (first | (with_reducible first | exact HB.out | apply below_alloc | apply pw_below_drewN | apply below_drew1 | apply below_drew) | (refine Below.setCell ?_ (by simp; omega) _))) hb1); clear hb1) | (go_at_call 59; go_must (refine (halyardref01_Same.calls 100000 A1 c1 s1 A2 c2 s1 true _ HC1.out hc1.out HC2.out hc2.out HSM.out).mono ?_); rintro e w1 ⟨rfl, ⟨nd, rfl⟩⟩) | (go_at_call 23; (with_reducible refine (halyardlaw01_alive.calls 9 _ _ (alive_true 9 (by decide))).mono ?_); rintro e w1 ⟨rfl, hb1⟩; replace HB := Aside0.mk (below_step (by repeat (first | (with_reducible first | exact HB.out | apply below_alloc | apply pw_below_drewN | apply below_drew1 | apply below_drew) | (refine Below.setCell ?_ (by simp; omega) _))) hb1); clear hb1))
    go_ret
    exact ⟨rfl, by repeat (first | (with_reducible first | exact HB.out | apply below_alloc | apply pw_below_drewN | apply below_drew1 | apply below_drew) | (refine Below.setCell ?_ (by simp; omega) _))⟩

end Go.Proofs.Ytdojpjiiihmdoaa.PG01
