/- The law halyard/halyardlaw01.OctetSplits in plain Lean: what the call comes to is true, whatever the input; no condition. -/
import Derived.Test.YtdojpjiiihmdoaaPG01Rx
import Derived.Test.YtdojpjiiihmdoaaHW
namespace Go.Proofs.Ytdojpjiiihmdoaa.Pure
open Go.RowKit Go.Proofs.Ytdojpjiiihmdoaa.PG01R Go.Proofs.YtdojpjiiihmdoaaW.PrintWords Go.Proofs.YtdojpjiiihmdoaaW.PrintLast Go.Proofs.YtdojpjiiihmdoaaHW
/-! Plain facts on octet's texts. -/
theorem op_strs_append (xs ys : List Int) : strOfNums xs ++ strOfNums ys = strOfNums (xs ++ ys) := by
  refine ByteArray.ext ?_
  rw [ByteArray.data_append]
  simp [strOfNums]
def enc1 (s : ByteArray) : ByteArray := strOfNums [(s.size : Int)] ++ s
def enc : List ByteArray → ByteArray
  | [] => ⟨#[]⟩
  | x :: r => enc1 x ++ enc r
def small (l : List ByteArray) : Prop := ∀ x ∈ l, x.size ≤ 255
theorem op_nil_append (a : ByteArray) : (⟨#[]⟩ : ByteArray) ++ a = a := ByteArray.empty_append
theorem op_append_nil (a : ByteArray) : a ++ (⟨#[]⟩ : ByteArray) = a := ByteArray.append_empty
theorem enc1_size (s : ByteArray) : (enc1 s).size = s.size + 1 := by
  unfold enc1; rw [ByteArray.size_append, hw_strs]; simp; omega
theorem enc_append : ∀ (l m : List ByteArray), enc (l ++ m) = enc l ++ enc m
  | [], m => by rw [List.nil_append]; show _ = (⟨#[]⟩ : ByteArray) ++ _; rw [op_nil_append]
  | x :: r, m => by
    show enc1 x ++ enc (r ++ m) = enc1 x ++ enc r ++ enc m
    rw [enc_append r m, ByteArray.append_assoc]
theorem op_empty_of {s : ByteArray} (h : s.toList = ([] : List UInt8)) : s = ⟨#[]⟩ := by
  rw [ByteArray.toList_eq] at h
  exact ByteArray.ext (by simpa using h)
theorem op_size_of {s : ByteArray} : s.toList = ([] : List UInt8) ↔ s.size = 0 := by
  rw [ByteArray.toList_eq]
  constructor
  · intro h; have := congrArg List.length h; rw [Array.length_toList] at this; exact this
  · intro h; exact List.eq_nil_of_length_eq_zero (by rw [Array.length_toList]; exact h)
theorem text8_val (s : ByteArray) : octet_Text8.f s = if s.size ≤ 255 then some (enc1 s, 0) else some (⟨#[]⟩, 5) := by
  unfold octet_Text8.f enc1
  by_cases h : s.size ≤ 255
  · rw [if_neg (by omega), if_pos h]
    simp only [Option.bind_some]
    rw [if_pos (by rw [hw_strs]; simp only [List.length_cons, List.length_nil]; omega), show (s.size : Int) % 256 = s.size from by omega]
  · rw [if_pos (by omega), if_neg h]
/-- What Read8 tells: the first text and the rest, or an end. -/
theorem read8_val (s : ByteArray) (hs : s.size ≤ 9000000000000000000) : (∃ t rest, octet_Read8.f s = some (t, rest, 0) ∧ t.size ≤ 255 ∧ s = enc1 t ++ rest ∧ t = s.extract 1 (1 + (bt s 0).toNat) ∧ rest = s.extract (1 + (bt s 0).toNat) s.size ∧ 0 < s.size ∧ bt s 0 < s.size) ∨
    (octet_Read8.f s = some (⟨#[]⟩, ⟨#[]⟩, 6) ∧ (s.size = 0 ∨ (s.size : Int) ≤ bt s 0)) := by
  have b := bt_range s 0
  unfold octet_Read8.f
  by_cases c0 : s.toList = ([] : List UInt8)
  · rw [if_pos c0]; exact .inr ⟨rfl, .inl (op_size_of.1 c0)⟩
  have hp : 0 < s.size := by have := mt op_size_of.2 c0; omega
  have e1 : wrap64 (bt s 0) = bt s 0 := by unfold wrap64; omega
  have e2 : wrap64 (1 + bt s 0) = 1 + bt s 0 := by unfold wrap64; omega
  rw [if_neg c0, e1, e2, if_pos (by omega)]
  by_cases c1 : (s.size : Int) ≤ bt s 0
  · rw [if_pos c1]; exact .inr ⟨rfl, .inr c1⟩
  rw [if_neg c1, if_pos (by omega), if_pos (by omega), if_pos (by omega)]
  obtain ⟨n, hn⟩ : ∃ n : Nat, (n : Int) = bt s 0 := ⟨(bt s 0).toNat, by omega⟩
  rw [show (1 + bt s 0).toNat = 1 + n from by omega, show (bt s 0).toNat = n from by omega]
  have h1 : (s.extract 1 (1 + n)).size = n := by rw [ByteArray.size_extract]; omega
  have h2 : (s.extract (1 + n) s.size).size = s.size - (1 + n) := by rw [ByteArray.size_extract]; omega
  refine .inl ⟨_, _, rfl, by omega, ?_, rfl, rfl, hp, by omega⟩
  refine hw_ext _ _ (by rw [ByteArray.size_append, enc1_size, h1, h2]; omega) (fun i hi => ?_)
  unfold enc1
  rw [h1]
  by_cases i0 : i = 0
  · subst i0
    rw [hw_bt_l _ _ _ (by rw [ByteArray.size_append, hw_strs]; simp only [List.length_cons, List.length_nil, Int.toNat_natCast]; omega), hw_bt_l _ _ _ (by rw [hw_strs]; simp), hw_bt_n _ _ (by simp) (by simp) (by simp; omega)]
    simpa using hn.symm
  · by_cases i1 : i < 1 + n
    · rw [hw_bt_l _ _ _ (by rw [ByteArray.size_append, hw_strs, h1]; simp; omega), hw_bt_r _ _ _ (by rw [hw_strs]; simp; omega), hw_strs, hw_bt_x _ _ _ _ (by rw [h1]; simp; omega)]
      congr 1; simp; omega
    · rw [hw_bt_r _ _ _ (by rw [ByteArray.size_append, hw_strs, h1]; simp; omega), ByteArray.size_append, hw_strs, h1, hw_bt_x _ _ _ _ (by rw [h2]; simp; omega)]
      congr 1; simp; omega
/-- Of bytes that begin with a text's, Read8 gives that text, and the rest. -/
theorem read8_enc (t rest : ByteArray) (ht : t.size ≤ 255) (hs : (enc1 t ++ rest).size ≤ 9000000000000000000) : octet_Read8.f (enc1 t ++ rest) = some (t, rest, 0) := by
  have hb : bt (enc1 t ++ rest) 0 = t.size := by
    rw [hw_bt_l _ _ _ (by rw [enc1_size]; simp)]
    unfold enc1
    rw [hw_bt_l _ _ _ (by rw [hw_strs]; simp), hw_bt_n _ _ (by simp) (by simp) (by simp; omega)]
    simp
  have hz : (enc1 t ++ rest).size = t.size + 1 + rest.size := by rw [ByteArray.size_append, enc1_size]
  rcases read8_val _ hs with ⟨t', rest', h, ht', he, h1, h2, _, _⟩ | ⟨_, h | h⟩
  · rw [h]
    rw [hb] at h1 h2
    have e1 : t' = t := by
      rw [h1]
      refine hw_ext _ _ (by rw [ByteArray.size_extract, hz]; simp; omega) (fun i hi => ?_)
      rw [ByteArray.size_extract, hz] at hi
      simp only [Int.toNat_natCast] at hi ⊢
      rw [hw_bt_x _ _ _ _ (by rw [ByteArray.size_extract, hz]; simp; omega), hw_bt_l _ _ _ (by rw [enc1_size]; simp; omega)]
      unfold enc1
      rw [hw_bt_r _ _ _ (by rw [hw_strs]; simp; omega), hw_strs]
      congr 1; simp; omega
    have e2 : rest' = rest := by
      rw [h2]
      refine hw_ext _ _ (by rw [ByteArray.size_extract, hz]; simp; omega) (fun i hi => ?_)
      rw [ByteArray.size_extract, hz] at hi
      simp only [Int.toNat_natCast] at hi ⊢
      rw [hw_bt_x _ _ _ _ (by rw [ByteArray.size_extract, hz]; simp; omega), hw_bt_r _ _ _ (by rw [enc1_size]; simp; omega), enc1_size]
      congr 1; simp; omega
    rw [e1, e2]
  · omega
  · rw [hb] at h; omega
theorem op_ext_iff {a b : ByteArray} : a.toList = b.toList ↔ a = b := ⟨hw_toList_inj, fun h => by rw [h]⟩
theorem enc_size_le : ∀ l : List ByteArray, l.length ≤ (enc l).size
  | [] => Nat.zero_le _
  | x :: r => by
    have := enc_size_le r
    show (r.length + 1) ≤ (enc1 x ++ enc r).size
    rw [ByteArray.size_append, enc1_size]; omega
/-- Splitting what was joined. -/
theorem split_enc : ∀ (l acc : List ByteArray) (k : Nat), small l → (enc l).size ≤ 1000000000000 → acc.length + l.length ≤ 1000000000000 → l.length < k → octet_Split8.l0 k (enc l) acc = some (acc ++ l, 0)
  | [], acc, k, _, _, _, hk => by
    obtain ⟨k, rfl⟩ : ∃ m, k = m + 1 := ⟨k - 1, by omega⟩
    simp only [octet_Split8.l0]
    rw [if_pos (op_size_of.2 rfl), List.append_nil]
  | x :: r, acc, k, hs, hz, ha, hk => by
    obtain ⟨k, rfl⟩ : ∃ m, k = m + 1 := ⟨k - 1, by simp at hk; omega⟩
    have hz' : (enc1 x ++ enc r).size ≤ 1000000000000 := hz
    have hx := hs x (by simp)
    have h1 := read8_enc x (enc r) hx (by omega)
    rw [ByteArray.size_append, enc1_size] at hz'
    simp only [List.length_cons] at ha hk
    show octet_Split8.l0 (k + 1) (enc1 x ++ enc r) acc = _
    simp only [octet_Split8.l0]
    rw [if_neg (by rw [op_size_of, ByteArray.size_append, enc1_size]; omega), h1]
    simp only [Option.bind_some, if_true]
    rw [if_pos (by omega), split_enc r (acc ++ [x]) k (fun y hy => hs y (by simp [hy])) (by omega) (by simp; omega) (by omega)]
    simp
/-- Whatever is split: it ends well just if it is a row's bytes. -/
theorem split_any : ∀ (n : Nat) (s : ByteArray) (acc : List ByteArray) (k : Nat), s.size = n → n ≤ 1000000000000 → acc.length + n ≤ 1000000000000 → n < k →
    (∃ l, octet_Split8.l0 k s acc = some (acc ++ l, 0) ∧ small l ∧ enc l = s ∧ l.length ≤ n) ∨ octet_Split8.l0 k s acc = some ([], 6) := by
  intro n
  induction n using Nat.strongRecOn with
  | _ n ih =>
    intro s acc k hn hz ha hk
    obtain ⟨k, rfl⟩ : ∃ m, k = m + 1 := ⟨k - 1, by omega⟩
    simp only [octet_Split8.l0]
    by_cases c : s.toList = ([] : List UInt8)
    · rw [if_pos c]
      exact .inl ⟨[], by simp, fun x hx => by simp at hx, (op_empty_of c).symm, Nat.zero_le _⟩
    · rw [if_neg c]
      rcases read8_val s (by omega) with ⟨t, rest, h, ht, he, _⟩ | ⟨h, _⟩
      · rw [h]
        simp only [Option.bind_some, if_true]
        have hzs : s.size = t.size + 1 + rest.size := by rw [he, ByteArray.size_append, enc1_size]
        rw [if_pos (by omega)]
        rcases ih rest.size (by omega) rest (acc ++ [t]) k rfl (by omega) (by simp; omega) (by omega) with ⟨l, h1, h2, h3, h4⟩ | h1
        · refine .inl ⟨t :: l, by rw [h1]; simp, fun x hx => ?_, by rw [he, ← h3]; rfl, by simp; omega⟩
          rcases List.mem_cons.1 hx with rfl | hx
          · exact ht
          · exact h2 x hx
        · exact .inr h1
      · rw [h]
        exact .inr rfl
/-- Joining. -/
theorem join_val : ∀ (l : List ByteArray) (a : ByteArray), (small l → a.size + (enc l).size ≤ 1000000000000 → octet_Join8.acc a l = some (a ++ enc l, 0)) ∧ (¬ small l → (∀ x ∈ l, x.size ≤ 140737488351232) → a.size + 300 * l.length ≤ 1000000000000 → octet_Join8.acc a l = some (⟨#[]⟩, 5))
  | [], a => ⟨fun _ _ => by simp only [octet_Join8.acc]; show _ = some (a ++ ⟨#[]⟩, 0); rw [op_append_nil], fun h => absurd (fun x hx => by simp at hx) h⟩
  | x :: r, a => by
    obtain ⟨ih1, ih2⟩ := join_val r (a ++ enc1 x)
    refine ⟨fun hs hz => ?_, fun hs hb hz => ?_⟩
    · have hx := hs x (by simp)
      have hz' : a.size + (enc1 x ++ enc r).size ≤ 1000000000000 := hz
      rw [ByteArray.size_append, enc1_size] at hz'
      simp only [octet_Join8.acc, text8_val]
      rw [if_pos hx]
      simp only [Option.bind_some, if_true]
      rw [if_pos (by rw [enc1_size]; omega), ih1 (fun y hy => hs y (by simp [hy])) (by rw [ByteArray.size_append, enc1_size]; omega)]
      show _ = some (a ++ (enc1 x ++ enc r), 0)
      rw [ByteArray.append_assoc]
    · simp only [octet_Join8.acc, text8_val]
      simp only [List.length_cons] at hz
      by_cases hx : x.size ≤ 255
      · rw [if_pos hx]
        simp only [Option.bind_some, if_true]
        rw [if_pos (by rw [enc1_size]; omega), ih2 (fun h => hs (fun y hy => by
          rcases List.mem_cons.1 hy with rfl | hy
          · exact hx
          · exact h y hy)) (fun y hy => hb y (by simp [hy])) (by rw [ByteArray.size_append, enc1_size]; omega)]
      · rw [if_neg hx]
        simp
theorem enc_inj : ∀ {l m : List ByteArray}, small l → small m → (enc l).size ≤ 1000000000000 → enc l = enc m → l = m := by
  intro l m hl hm hz h
  have h1 := split_enc l [] ((enc l).size + 1) hl hz (by have := enc_size_le l; simp; omega) (by have := enc_size_le l; omega)
  have h2 := split_enc m [] ((enc l).size + 1) hm (by rw [← h]; exact hz) (by have := enc_size_le m; rw [← h] at this; simp; omega) (by have := enc_size_le m; rw [← h] at this; omega)
  rw [← h, h1] at h2
  simpa using h2

theorem same_loop (l m : List ByteArray) (h : l.length = m.length) (hz : l.length ≤ 1000000000000) : ∀ (d k i : Nat), l.length - i = d → i ≤ l.length → d < k → halyardref01_Same.l0 k l m (i : Int) = some (decide (l.drop i = m.drop i)) := by
  intro d
  induction d with
  | zero =>
    intro k i hd hi hk
    obtain ⟨k, rfl⟩ : ∃ m, k = m + 1 := ⟨k - 1, by omega⟩
    simp only [halyardref01_Same.l0]
    rw [if_neg (by omega), List.drop_eq_nil_of_le (by omega), List.drop_eq_nil_of_le (by omega)]
    simp
  | succ d ih =>
    intro k i hd hi hk
    obtain ⟨k, rfl⟩ : ∃ m, k = m + 1 := ⟨k - 1, by omega⟩
    have h1 : i < l.length := by omega
    have h2 : i < m.length := by omega
    simp only [halyardref01_Same.l0]
    rw [if_pos (by omega), if_pos (by omega), if_pos (by omega), show wrap64 ((i : Int) + 1) = ((i + 1 : Nat) : Int) from by unfold wrap64; omega, ih k (i + 1) (by omega) (by omega) (by omega), List.drop_eq_getElem_cons h1, List.drop_eq_getElem_cons h2]
    simp only [rdOf, Int.toNat_natCast, List.getD_eq_getElem?_getD, List.getElem?_eq_getElem h1, List.getElem?_eq_getElem h2, Option.getD_some]
    by_cases c : l[i].toList = m[i].toList
    · rw [if_pos c, hw_toList_inj c]; simp only [List.cons.injEq, true_and]
    · rw [if_neg c]
      have : l[i] ≠ m[i] := fun e => c (by rw [e])
      simp only [List.cons.injEq, this, false_and, decide_false]
theorem same_val (l m : List ByteArray) (hz : l.length ≤ 1000000000000) (k : Nat) (hk : l.length < k) : halyardref01_Same.f k l m = some (decide (l = m)) := by
  unfold halyardref01_Same.f
  by_cases h : l.length = m.length
  · rw [if_pos (by rw [h])]
    have := same_loop l m h hz l.length k 0 (by omega) (by omega) hk
    simpa using this
  · rw [if_neg (by omega)]
    have : l ≠ m := fun e => h (by rw [e])
    simp [this]
def tot (l : List ByteArray) : Nat := (l.map ByteArray.size).sum
theorem enc_size : ∀ l : List ByteArray, (enc l).size = tot l + l.length
  | [] => rfl
  | x :: r => by
    show (enc1 x ++ enc r).size = _
    rw [ByteArray.size_append, enc1_size, enc_size r]
    simp [tot]; omega
theorem tot_take_succ (l : List ByteArray) (i : Nat) (h : i < l.length) : tot (l.take (i + 1)) = tot (l.take i) + l[i].size := by
  unfold tot
  rw [List.take_succ_eq_append_getElem h, List.map_append, List.sum_append]
  simp only [List.map_cons, List.map_nil, List.sum_cons, List.sum_nil]
  omega
theorem tot_le (l : List ByteArray) (B : Nat) (hb : ∀ x ∈ l, x.size ≤ B) : tot l ≤ B * l.length := by
  induction l with
  | nil => simp [tot]
  | cons x r ih =>
    have h1 := ih (fun y hy => hb y (by simp [hy]))
    have h2 := hb x (by simp)
    simp only [tot, List.map_cons, List.sum_cons, List.length_cons] at *
    rw [Nat.mul_add]; omega
theorem long_loop (l : List ByteArray) (hb : ∀ x ∈ l, x.size ≤ 140737488351232) : ∀ (d k i : Nat), min l.length 400 - i = d → i ≤ min l.length 400 → d < k →
    halyardlaw01_Long.l0 k l (tot (l.take i) : Nat) (i : Int) = some (if (l.length : Int) > 300 then true else decide (((tot (l.take (min l.length 400)) : Nat) : Int) > 32768)) := by
  intro d
  induction d with
  | zero =>
    intro k i hd hi hk
    obtain ⟨k, rfl⟩ : ∃ m, k = m + 1 := ⟨k - 1, by omega⟩
    obtain rfl : i = min l.length 400 := by omega
    simp only [halyardlaw01_Long.l0]
    by_cases c : l.length < 400
    · rw [if_neg (by omega)]; split <;> rfl
    · by_cases c2 : ((min l.length 400 : Nat) : Int) < l.length
      · rw [if_pos c2, if_neg (by omega)]; split <;> rfl
      · rw [if_neg c2]; split <;> rfl
  | succ d ih =>
    intro k i hd hi hk
    obtain ⟨k, rfl⟩ : ∃ m, k = m + 1 := ⟨k - 1, by omega⟩
    have h1 : i < l.length := by omega
    simp only [halyardlaw01_Long.l0]
    have ht := tot_le (l.take i) 140737488351232 (fun x hx => hb x (List.mem_of_mem_take hx))
    have hx := hb l[i] (List.getElem_mem h1)
    have hl : (l.take i).length ≤ 400 := by rw [List.length_take]; omega
    have hr : rdOf ByteArray.empty l (i : Int) = l[i] := by simp [rdOf, List.getD_eq_getElem?_getD, List.getElem?_eq_getElem h1]
    rw [if_pos (by omega), if_pos (by omega), if_pos (by omega), hr, show wrap64 ((i : Int) + 1) = ((i + 1 : Nat) : Int) from by unfold wrap64; omega,
      show wrap64 (((tot (l.take i) : Nat) : Int) + (l[i].size : Int)) = ((tot (l.take (i + 1)) : Nat) : Int) from by rw [tot_take_succ l i h1]; unfold wrap64; omega]
    exact ih k (i + 1) (by omega) (by omega) (by omega)
/-- What is not long is small altogether. -/
theorem long_val (l : List ByteArray) (hb : ∀ x ∈ l, x.size ≤ 140737488351232) (k : Nat) (hk : 400 < k) : ∃ b, halyardlaw01_Long.f k l = some b ∧ (b = false → l.length ≤ 300 ∧ (enc l).size ≤ 40000) := by
  have h := long_loop l hb (min l.length 400) k 0 (by omega) (by omega) (by omega)
  refine ⟨_, h, fun hf => ?_⟩
  by_cases c : (l.length : Int) > 300
  · rw [if_pos c] at hf; simp at hf
  · rw [if_neg c] at hf
    have h1 : l.take (min l.length 400) = l := List.take_of_length_le (by omega)
    rw [h1] at hf
    have h2 : ¬ ((tot l : Nat) : Int) > 32768 := of_decide_eq_false hf
    refine ⟨by omega, ?_⟩
    rw [enc_size]; omega

theorem alive_true (k : Nat) (h : 9 ≤ k) : halyardlaw01_alive.f k = some true := at_rounds (g := halyardlaw01_alive.f) halyardlaw01_alive.mono h (show halyardlaw01_alive.f 9 = some true by decide +kernel)
theorem j2_true (k : Nat) (s : ByteArray) (hs : s.size ≤ 32768) (hk : 40000 < k) : halyardlaw01_OctetSplits.j2 k s false = some true := by
  obtain ⟨k, rfl⟩ : ∃ m, k = m + 1 := ⟨k - 1, by omega⟩
  simp only [halyardlaw01_OctetSplits.j2, Bool.false_eq_true, if_false]
  rcases split_any s.size s [] k rfl (by omega) (by simp; omega) (by omega) with ⟨l, h1, h2, h3, h4⟩ | h1
  · have e1 : octet_Split8.f k s = some (l, 0) := by unfold octet_Split8.f; simpa using h1
    have e2 : octet_Join8.f l = some (s, 0) := by
      have := (join_val l ⟨#[]⟩).1 h2 (by rw [h3]; show 0 + s.size ≤ _; omega)
      unfold octet_Join8.f
      rw [this, op_nil_append, h3]
    rw [e1]
    simp only [Option.bind_some, if_true]
    rw [e2, alive_true k (by omega)]
    simp
  · have e1 : octet_Split8.f k s = some ([], 6) := h1
    rw [e1, alive_true k (by omega)]
    simp
theorem OctetSplits (l m : List ByteArray) (s : ByteArray) (hl : ∀ x ∈ l, x.size ≤ 140737488351232) (hm : ∀ x ∈ m, x.size ≤ 140737488351232) : ∃ k, halyardlaw01_OctetSplits.f k l m s = some true := by
  refine ⟨100000, ?_⟩
  unfold halyardlaw01_OctetSplits.f
  obtain ⟨b, hb, hb2⟩ := long_val l hl 100000 (by omega)
  obtain ⟨c, hc, hc2⟩ := long_val m hm 100000 (by omega)
  rw [hb, hc]
  have al := alive_true 99999 (by omega)
  have stop : halyardlaw01_OctetSplits.j0 100000 l m s true = some true := by
    simp only [halyardlaw01_OctetSplits.j0, if_true]
    rw [al]; rfl
  simp only [Option.bind_some]
  cases b with
  | true => rw [if_pos rfl]; exact stop
  | false =>
    cases c with
    | true => simp only [Bool.false_eq_true, if_false, if_true]; exact stop
    | false =>
      simp only [Bool.false_eq_true, if_false]
      by_cases hs : (s.size : Int) > 32768
      · rw [decide_eq_true hs]; exact stop
      rw [decide_eq_false hs]
      obtain ⟨l1, l2⟩ := hb2 rfl
      obtain ⟨m1, m2⟩ := hc2 rfl
      have hj2 := fun k (h : 40000 < k) => j2_true k s (by omega) h
      have join : ∀ x : List ByteArray, (enc x).size ≤ 40000 → x.length ≤ 300 → (∀ y ∈ x, y.size ≤ 140737488351232) → (small x ∧ octet_Join8.f x = some (enc x, 0)) ∨ (¬ small x ∧ octet_Join8.f x = some (⟨#[]⟩, 5)) := by
        intro x h1 h2 h3
        by_cases hx : small x
        · refine .inl ⟨hx, ?_⟩
          unfold octet_Join8.f
          rw [(join_val x ⟨#[]⟩).1 hx (by show 0 + (enc x).size ≤ _; omega), op_nil_append]
        · exact .inr ⟨hx, (join_val x ⟨#[]⟩).2 hx h3 (by show 0 + 300 * x.length ≤ _; omega)⟩
      have key : ∀ a e b f, octet_Join8.f l = some (a, e) → octet_Join8.f m = some (b, f) → halyardlaw01_OctetSplits.j1 99999 l m s a e b f = some true := by
        intro a e b f h1 h2
        simp only [halyardlaw01_OctetSplits.j1]
        rw [same_val l m (by omega) _ (by omega)]
        simp only [Option.bind_some]
        by_cases he : e = 0
        · by_cases hf : f = 0
          · rw [if_pos he, if_pos hf]
            rcases join l l2 l1 hl with ⟨g1, g2⟩ | ⟨g1, g2⟩
            · rcases join m m2 m1 hm with ⟨g3, g4⟩ | ⟨g3, g4⟩
              · rw [g2] at h1; rw [g4] at h2
                simp only [Option.some.injEq, Prod.mk.injEq] at h1 h2
                obtain ⟨rfl, -⟩ := h1
                obtain ⟨rfl, -⟩ := h2
                have : ((enc l).toList == (enc m).toList) = decide (l = m) := by
                  by_cases hlm : l = m
                  · subst hlm; simp
                  · have : enc l ≠ enc m := fun h => hlm (enc_inj g1 g3 (by omega) h)
                    have : ¬ (enc l).toList = (enc m).toList := fun h => this (hw_toList_inj h)
                    simp [this, hlm]
                rw [this]
                simp only [bne_self_eq_false]
                exact hj2 _ (by omega)
              · rw [g4] at h2
                simp only [Option.some.injEq, Prod.mk.injEq] at h2
                omega
            · rw [g2] at h1
              simp only [Option.some.injEq, Prod.mk.injEq] at h1
              omega
          · rw [if_pos he, if_neg hf]; exact hj2 _ (by omega)
        · rw [if_neg he]; exact hj2 _ (by omega)
      simp only [halyardlaw01_OctetSplits.j0, Bool.false_eq_true, if_false]
      rcases join l l2 l1 hl with ⟨g1, g2⟩ | ⟨g1, g2⟩
      all_goals
        obtain ⟨b, f, h2⟩ : ∃ b f, octet_Join8.f m = some (b, f) := by
          rcases join m m2 m1 hm with ⟨_, g4⟩ | ⟨_, g4⟩
          · exact ⟨_, _, g4⟩
          · exact ⟨_, _, g4⟩
        rw [g2, h2]
        simp only [Option.bind_some]
      · have e1 : octet_Split8.f 99999 (enc l) = some (l, 0) := by
          have := split_enc l [] 99999 g1 (by omega) (by simp; omega) (by omega)
          unfold octet_Split8.f
          simpa using this
        simp only [if_true]
        rw [e1]
        simp only [Option.bind_some, if_true]
        rw [same_val l l (by omega) _ (by omega)]
        simp only [Option.bind_some, decide_true, if_true]
        exact key _ _ _ _ g2 h2
      · rw [if_neg (by decide)]
        exact key _ _ _ _ g2 h2

end Go.Proofs.Ytdojpjiiihmdoaa.Pure
