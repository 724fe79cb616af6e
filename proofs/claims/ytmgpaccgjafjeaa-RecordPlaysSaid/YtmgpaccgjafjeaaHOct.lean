/- Texts as bytes. -/
import Derived.Test.YtmgpaccgjafjeaaHW
import Derived.Test.YtmgpaccgjafjeaaPG28x10
import Derived.Test.YtmgpaccgjafjeaaPG28x5
namespace Go.Proofs.YtmgpaccgjafjeaaHVR
open Go.RowKit Go.Proofs.YtmgpaccgjafjeaaW.PrintWords Go.Proofs.YtmgpaccgjafjeaaHW Go.Proofs.Ytmgpaccgjafjeaa.PG28
set_option linter.unusedVariables false
set_option linter.unusedSimpArgs false
/-! Plain facts on octet's texts. -/
theorem op_strs_append (xs ys : List Int) : strOfNums xs ++ strOfNums ys = strOfNums (xs ++ ys) := by
  refine ByteArray.ext ?_
  rw [ByteArray.data_append]
  simp [strOfNums]
def enc1 (s : ByteArray) : ByteArray := strOfNums [(s.size : Int)] ++ s
def enc : List ByteArray → ByteArray
  | [] => ⟨#[]⟩
  | x :: r => enc1 x ++ enc r
def small (l : List ByteArray) : Prop := ∀ x ∈ l, x.size ≤ 255
theorem op_nil_append (a : ByteArray) : (⟨#[]⟩ : ByteArray) ++ a = a := ByteArray.empty_append
theorem op_append_nil (a : ByteArray) : a ++ (⟨#[]⟩ : ByteArray) = a := ByteArray.append_empty
theorem enc1_size (s : ByteArray) : (enc1 s).size = s.size + 1 := by
  unfold enc1; rw [ByteArray.size_append, hw_strs]; simp; omega
theorem enc_append : ∀ (l m : List ByteArray), enc (l ++ m) = enc l ++ enc m
  | [], m => by rw [List.nil_append]; show _ = (⟨#[]⟩ : ByteArray) ++ _; rw [op_nil_append]
  | x :: r, m => by
    show enc1 x ++ enc (r ++ m) = enc1 x ++ enc r ++ enc m
    rw [enc_append r m, ByteArray.append_assoc]
theorem op_empty_of {s : ByteArray} (h : s.toList = ([] : List UInt8)) : s = ⟨#[]⟩ := by
  rw [ByteArray.toList_eq] at h
  exact ByteArray.ext (by simpa using h)
theorem op_size_of {s : ByteArray} : s.toList = ([] : List UInt8) ↔ s.size = 0 := by
  rw [ByteArray.toList_eq]
  constructor
  · intro h; have := congrArg List.length h; rw [Array.length_toList] at this; exact this
  · intro h; exact List.eq_nil_of_length_eq_zero (by rw [Array.length_toList]; exact h)
theorem text8_val (s : ByteArray) : octet_Text8.f s = if s.size ≤ 255 then some (enc1 s, 0) else some (⟨#[]⟩, 5) := by
  unfold octet_Text8.f enc1
  by_cases h : s.size ≤ 255
  · rw [if_neg (by omega), if_pos h]
    simp only [Option.bind_some]
    rw [if_pos (by rw [hw_strs]; simp only [List.length_cons, List.length_nil]; omega), show (s.size : Int) % 256 = s.size from by omega]
  · rw [if_pos (by omega), if_neg h]
/-- What Read8 tells: the first text and the rest, or an end. -/
theorem read8_val (s : ByteArray) (hs : s.size ≤ 9000000000000000000) : (∃ t rest, octet_Read8.f s = some (t, rest, 0) ∧ t.size ≤ 255 ∧ s = enc1 t ++ rest ∧ t = s.extract 1 (1 + (bt s 0).toNat) ∧ rest = s.extract (1 + (bt s 0).toNat) s.size ∧ 0 < s.size ∧ bt s 0 < s.size) ∨
    (octet_Read8.f s = some (⟨#[]⟩, ⟨#[]⟩, 6) ∧ (s.size = 0 ∨ (s.size : Int) ≤ bt s 0)) := by
  have b := bt_range s 0
  unfold octet_Read8.f
  by_cases c0 : s.toList = ([] : List UInt8)
  · rw [if_pos c0]; exact .inr ⟨rfl, .inl (op_size_of.1 c0)⟩
  have hp : 0 < s.size := by have := mt op_size_of.2 c0; omega
  have e1 : wrap64 (bt s 0) = bt s 0 := by unfold wrap64; omega
  have e2 : wrap64 (1 + bt s 0) = 1 + bt s 0 := by unfold wrap64; omega
  rw [if_neg c0, e1, e2, if_pos (by omega)]
  by_cases c1 : (s.size : Int) ≤ bt s 0
  · rw [if_pos c1]; exact .inr ⟨rfl, .inr c1⟩
  rw [if_neg c1, if_pos (by omega), if_pos (by omega), if_pos (by omega)]
  obtain ⟨n, hn⟩ : ∃ n : Nat, (n : Int) = bt s 0 := ⟨(bt s 0).toNat, by omega⟩
  rw [show (1 + bt s 0).toNat = 1 + n from by omega, show (bt s 0).toNat = n from by omega]
  have h1 : (s.extract 1 (1 + n)).size = n := by rw [ByteArray.size_extract]; omega
  have h2 : (s.extract (1 + n) s.size).size = s.size - (1 + n) := by rw [ByteArray.size_extract]; omega
  refine .inl ⟨_, _, rfl, by omega, ?_, rfl, rfl, hp, by omega⟩
  refine hw_ext _ _ (by rw [ByteArray.size_append, enc1_size, h1, h2]; omega) (fun i hi => ?_)
  unfold enc1
  rw [h1]
  by_cases i0 : i = 0
  · subst i0
    rw [hw_bt_l _ _ _ (by rw [ByteArray.size_append, hw_strs]; simp only [List.length_cons, List.length_nil, Int.toNat_natCast]; omega), hw_bt_l _ _ _ (by rw [hw_strs]; simp), hw_bt_n _ _ (by simp) (by simp) (by simp; omega)]
    simpa using hn.symm
  · by_cases i1 : i < 1 + n
    · rw [hw_bt_l _ _ _ (by rw [ByteArray.size_append, hw_strs, h1]; simp; omega), hw_bt_r _ _ _ (by rw [hw_strs]; simp; omega), hw_strs, hw_bt_x _ _ _ _ (by rw [h1]; simp; omega)]
      congr 1; simp; omega
    · rw [hw_bt_r _ _ _ (by rw [ByteArray.size_append, hw_strs, h1]; simp; omega), ByteArray.size_append, hw_strs, h1, hw_bt_x _ _ _ _ (by rw [h2]; simp; omega)]
      congr 1; simp; omega
/-- Of bytes that begin with a text's, Read8 gives that text, and the rest. -/
theorem read8_enc (t rest : ByteArray) (ht : t.size ≤ 255) (hs : (enc1 t ++ rest).size ≤ 9000000000000000000) : octet_Read8.f (enc1 t ++ rest) = some (t, rest, 0) := by
  have hb : bt (enc1 t ++ rest) 0 = t.size := by
    rw [hw_bt_l _ _ _ (by rw [enc1_size]; simp)]
    unfold enc1
    rw [hw_bt_l _ _ _ (by rw [hw_strs]; simp), hw_bt_n _ _ (by simp) (by simp) (by simp; omega)]
    simp
  have hz : (enc1 t ++ rest).size = t.size + 1 + rest.size := by rw [ByteArray.size_append, enc1_size]
  rcases read8_val _ hs with ⟨t', rest', h, ht', he, h1, h2, _, _⟩ | ⟨_, h | h⟩
  · rw [h]
    rw [hb] at h1 h2
    have e1 : t' = t := by
      rw [h1]
      refine hw_ext _ _ (by rw [ByteArray.size_extract, hz]; simp; omega) (fun i hi => ?_)
      rw [ByteArray.size_extract, hz] at hi
      simp only [Int.toNat_natCast] at hi ⊢
      rw [hw_bt_x _ _ _ _ (by rw [ByteArray.size_extract, hz]; simp; omega), hw_bt_l _ _ _ (by rw [enc1_size]; simp; omega)]
      unfold enc1
      rw [hw_bt_r _ _ _ (by rw [hw_strs]; simp; omega), hw_strs]
      congr 1; simp; omega
    have e2 : rest' = rest := by
      rw [h2]
      refine hw_ext _ _ (by rw [ByteArray.size_extract, hz]; simp; omega) (fun i hi => ?_)
      rw [ByteArray.size_extract, hz] at hi
      simp only [Int.toNat_natCast] at hi ⊢
      rw [hw_bt_x _ _ _ _ (by rw [ByteArray.size_extract, hz]; simp; omega), hw_bt_r _ _ _ (by rw [enc1_size]; simp; omega), enc1_size]
      congr 1; simp; omega
    rw [e1, e2]
  · omega
  · rw [hb] at h; omega
theorem op_ext_iff {a b : ByteArray} : a.toList = b.toList ↔ a = b := ⟨hw_toList_inj, fun h => by rw [h]⟩
theorem enc_size_le : ∀ l : List ByteArray, l.length ≤ (enc l).size
  | [] => Nat.zero_le _
  | x :: r => by
    have := enc_size_le r
    show (r.length + 1) ≤ (enc1 x ++ enc r).size
    rw [ByteArray.size_append, enc1_size]; omega

end Go.Proofs.YtmgpaccgjafjeaaHVR
