/- record: bytes; plain facts. -/
import Derived.Test.YtmgpaccgjafjeaaHRec5
import Derived.Test.YtmgpaccgjafjeaaPG28m
namespace Go.Proofs.YtmgpaccgjafjeaaHVR
open Go.RowKit Go.Proofs.YtmgpaccgjafjeaaW.PrintWords Go.Proofs.YtmgpaccgjafjeaaHW Go.Proofs.YtmgpaccgjafjeaaHG Go.Proofs.Ytmgpaccgjafjeaa.PG28 Go.Proofs.YtmgpaccgjafjeaaHT
set_option linter.unusedVariables false
set_option linter.unusedSimpArgs false
/-- Joining. -/
theorem join_val : ∀ (l : List ByteArray) (a : ByteArray), (small l → a.size + (enc l).size ≤ 1000000000000 → octet_Join8.acc a l = some (a ++ enc l, 0)) ∧ (¬ small l → (∀ x ∈ l, x.size ≤ 140737488351232) → a.size + 300 * l.length ≤ 1000000000000 → octet_Join8.acc a l = some (⟨#[]⟩, 5))
  | [], a => ⟨fun _ _ => by simp only [octet_Join8.acc]; show _ = some (a ++ ⟨#[]⟩, 0); rw [op_append_nil], fun h => absurd (fun x hx => by simp at hx) h⟩
  | x :: r, a => by
    obtain ⟨ih1, ih2⟩ := join_val r (a ++ enc1 x)
    refine ⟨fun hs hz => ?_, fun hs hb hz => ?_⟩
    · have hx := hs x (by simp)
      have hz' : a.size + (enc1 x ++ enc r).size ≤ 1000000000000 := hz
      rw [ByteArray.size_append, enc1_size] at hz'
      simp only [octet_Join8.acc, text8_val]
      rw [if_pos hx]
      simp only [Option.bind_some, if_true]
      rw [if_pos (by rw [enc1_size]; omega), ih1 (fun y hy => hs y (by simp [hy])) (by rw [ByteArray.size_append, enc1_size]; omega)]
      show _ = some (a ++ (enc1 x ++ enc r), 0)
      rw [ByteArray.append_assoc]
    · simp only [octet_Join8.acc, text8_val]
      simp only [List.length_cons] at hz
      by_cases hx : x.size ≤ 255
      · rw [if_pos hx]
        simp only [Option.bind_some, if_true]
        rw [if_pos (by rw [enc1_size]; omega), ih2 (fun h => hs (fun y hy => by
          rcases List.mem_cons.1 hy with rfl | hy
          · exact hx
          · exact h y hy)) (fun y hy => hb y (by simp [hy])) (by rw [ByteArray.size_append, enc1_size]; omega)]
      · rw [if_neg hx]
        simp
theorem read8_ref (s : ByteArray) : halyardref01_Read8.f s = octet_Read8.f s := by
  have b := bt_range s 0
  have e1 : wrap64 (bt s 0) = bt s 0 := by unfold wrap64; omega
  have e2 : wrap64 (1 + bt s 0) = 1 + bt s 0 := by unfold wrap64; omega
  unfold halyardref01_Read8.f octet_Read8.f
  rw [e1, e2]
  by_cases c0 : s.toList = ([] : List UInt8)
  · rw [if_pos c0, if_pos c0]
  rw [if_neg c0, if_neg c0]
  by_cases c1 : (s.size : Int) ≤ bt s 0
  · rw [if_pos c1, if_pos (show (s.size : Int) < 1 + bt s 0 by omega)]
  · rw [if_neg c1, if_neg (show ¬ (s.size : Int) < 1 + bt s 0 by omega)]
theorem text8_ref (s : ByteArray) : halyardref01_Text8.f s = octet_Text8.f s := by
  rw [text8_val]
  unfold halyardref01_Text8.f enc1
  by_cases h : s.size ≤ 255
  · rw [if_neg (by omega), if_pos h]
  · rw [if_pos (by omega), if_neg h]
theorem join_ref (l : List ByteArray) (hl : l.length ≤ 1000) (_hb : ∀ x ∈ l, x.size ≤ 140737488351232) : ∀ (d k i : Nat) (a : ByteArray), l.length - i = d → i ≤ l.length → d < k → a.size + 300 * d ≤ 1000000000 →
    halyardref01_Join8.l0 k l a (i : Int) = octet_Join8.acc a (l.drop i) := by
  intro d
  induction d with
  | zero =>
    intro k i a hd hi hk ha
    obtain ⟨k, rfl⟩ : ∃ m, k = m + 1 := ⟨k - 1, by omega⟩
    simp only [halyardref01_Join8.l0]
    rw [if_neg (by omega), List.drop_eq_nil_of_le (by omega)]
    rfl
  | succ d ih =>
    intro k i a hd hi hk ha
    obtain ⟨k, rfl⟩ : ∃ m, k = m + 1 := ⟨k - 1, by omega⟩
    have h1 : i < l.length := by omega
    have hr : rdOf ByteArray.empty l (i : Int) = l[i] := by simp [rdOf, List.getD_eq_getElem?_getD, List.getElem?_eq_getElem h1]
    simp only [halyardref01_Join8.l0]
    rw [if_pos (by omega), if_pos (by omega), hr, text8_ref, text8_val, List.drop_eq_getElem_cons h1]
    simp only [octet_Join8.acc, text8_val]
    by_cases hx : l[i].size ≤ 255
    · rw [if_pos hx]
      simp only [Option.bind_some, if_true]
      rw [if_pos (by rw [enc1_size]; omega), if_pos (by rw [enc1_size]; omega), show wrap64 ((i : Int) + 1) = ((i + 1 : Nat) : Int) from by unfold wrap64; omega, ih k (i + 1) _ (by omega) (by omega) (by omega) (by rw [ByteArray.size_append, enc1_size]; omega)]
    · rw [if_neg hx]
      rfl
theorem strs_append (xs ys : List Int) : strOfNums xs ++ strOfNums ys = strOfNums (xs ++ ys) := by
  refine ByteArray.ext ?_
  rw [ByteArray.data_append]
  simp [strOfNums]
theorem nil_strs : (⟨#[]⟩ : ByteArray) = strOfNums [] := by simp [strOfNums]
theorem u64_id (n : Int) (h0 : 0 ≤ n) (h1 : n < 18446744073709551616) : IntKind.u64.wrap n = n := by
  rw [show ∀ n : Int, IntKind.u64.wrap n = n % 18446744073709551616 from fun n => by simp [IntKind.wrap, IntKind.bits, IntKind.signed]]; omega
theorem num_step (k : Nat) (v n i : Int) (xs : List Int) (h0 : 0 ≤ v) (h1 : v < 18446744073709551616) (hi0 : 0 ≤ i) (hi : i < n) (hn : n ≤ 8) (hx : xs.length ≤ 8) :
    halyardref01_Num.l0 (k + 1) v n (strOfNums xs) i = halyardref01_Num.l0 k (v / 256) n (strOfNums (v % 256 :: xs)) (i + 1) := by
  simp only [halyardref01_Num.l0, Option.bind_some]
  rw [if_pos hi, if_pos (by rw [hw_strs, hw_strs]; simp only [List.length_cons, List.length_nil]; omega), strs_append, Int.tmod_eq_emod_of_nonneg h0, Int.tdiv_eq_ediv_of_nonneg h0, u64_id _ (by omega) (by omega), show wrap64 (i + 1) = i + 1 from by unfold wrap64; omega]
  simp
theorem num_end (k : Nat) (v n i : Int) (s : ByteArray) (hi : ¬ i < n) : halyardref01_Num.l0 (k + 1) v n s i = some s := by
  simp only [halyardref01_Num.l0]
  rw [if_neg hi]
theorem num4 (v : Int) (h0 : 0 ≤ v) (h1 : v ≤ 4294967295) : halyardref01_Num.f 9 v 4 = octet_Put32.f v := by
  unfold halyardref01_Num.f octet_Put32.f
  rw [nil_strs, num_step _ _ _ _ _ h0 (by omega) (by omega) (by omega) (by omega) (by decide), num_step _ _ _ _ _ (by omega) (by omega) (by omega) (by omega) (by omega) (by simp), num_step _ _ _ _ _ (by omega) (by omega) (by omega) (by omega) (by omega) (by simp),
    num_step _ _ _ _ _ (by omega) (by omega) (by omega) (by omega) (by omega) (by simp), num_end _ _ _ _ _ (by omega), show v / 256 / 256 / 256 % 256 = v / 16777216 % 256 from by omega, show v / 256 / 256 % 256 = v / 65536 % 256 from by omega]
theorem val_step (k : Nat) (s : ByteArray) (v i : Int) (h0 : 0 ≤ v) (h1 : v < 16777216) (hi0 : 0 ≤ i) (hi : i < s.size) (hs : s.size ≤ 8) :
    halyardref01_Value.l0 (k + 1) s v i = halyardref01_Value.l0 k s (v * 256 + bt s i) (i + 1) := by
  have b := bt_range s i
  simp only [halyardref01_Value.l0]
  rw [if_pos hi, if_pos hi0, u64_id (v * 256) (by omega) (by omega), u64_id (bt s i) (by omega) (by omega), u64_id _ (by omega) (by omega), show wrap64 (i + 1) = i + 1 from by unfold wrap64; omega]
theorem val_end (k : Nat) (s : ByteArray) (v i : Int) (hi : ¬ i < s.size) : halyardref01_Value.l0 (k + 1) s v i = some v := by
  simp only [halyardref01_Value.l0]
  rw [if_neg hi]

def put4 (a : Int) : ByteArray := strOfNums [(a / 16777216) % 256, (a / 65536) % 256, (a / 256) % 256, a % 256]
def lastB (b : Bool) : ByteArray := if b = true then ⟨#[1]⟩ else ⟨#[0]⟩
def encS (x : El) : ByteArray := (enc [x.f0, x.f1, x.f2] ++ put4 x.f3) ++ lastB x.f4
def bytesK (x : El) : ByteArray × Int := if okS x = true then (encS x, 0) else (⟨#[]⟩, 2)
theorem ok_sizes {x : El} (h : okS x = true) : 1 ≤ x.f0.size ∧ x.f0.size ≤ 32 ∧ 1 ≤ x.f2.size ∧ x.f2.size ≤ 32 ∧ x.f1.size ≤ 32 ∧ x.f3 ≠ 0 := by
  unfold okS at h
  simpa using h
theorem small3 {x : El} (h : okS x = true) : small [x.f0, x.f1, x.f2] := by
  have := ok_sizes h
  intro y hy
  simp at hy
  rcases hy with rfl | rfl | rfl <;> omega
theorem enc3 (a b c : ByteArray) : enc [a, b, c] = enc1 a ++ (enc1 b ++ enc1 c) := by
  show enc1 a ++ (enc1 b ++ (enc1 c ++ ⟨#[]⟩)) = _
  rw [op_append_nil]
theorem enc3_size (a b c : ByteArray) : (enc [a, b, c]).size = a.size + b.size + c.size + 3 := by
  rw [enc3, ByteArray.size_append, ByteArray.size_append, enc1_size, enc1_size, enc1_size]; omega
theorem put4_size (a : Int) : (put4 a).size = 4 := by unfold put4; rw [hw_strs]; rfl
theorem last_size (b : Bool) : (lastB b).size = 1 := by cases b <;> rfl
theorem join3 {x : El} (h : okS x = true) : octet_Join8.acc ⟨#[]⟩ [x.f0, x.f1, x.f2] = some (enc [x.f0, x.f1, x.f2], 0) := by
  have hz := ok_sizes h
  have := (join_val [x.f0, x.f1, x.f2] ⟨#[]⟩).1 (small3 h) (by rw [enc3_size]; show 0 + _ ≤ _; omega)
  rw [op_nil_append] at this
  exact this
theorem bytes_val (x : El) : record_Bytes.f x.f0 x.f1 x.f2 x.f3 x.f4 = some (bytesK x) := by
  unfold record_Bytes.f bytesK
  rw [check_ok]
  cases hk : okS x with
  | false => rfl
  | true =>
    have hz := ok_sizes hk
    simp only [if_true, Option.bind_some]
    rw [show octet_Join8.f [x.f0, x.f1, x.f2] = octet_Join8.acc ⟨#[]⟩ [x.f0, x.f1, x.f2] from rfl, join3 hk]
    simp only [Option.bind_some]
    rw [show octet_Put32.f x.f3 = some (put4 x.f3) from rfl]
    simp only [Option.bind_some]
    have e1 := enc3_size x.f0 x.f1 x.f2
    have e2 := put4_size x.f3
    unfold encS lastB
    cases x.f4
    · rw [if_neg (by decide), if_pos (by omega), if_pos (by rw [ByteArray.size_append]; omega), if_neg (by decide)]
    · rw [if_pos rfl, if_pos (by omega), if_pos (by rw [ByteArray.size_append]; omega), if_pos rfl]
theorem refCheck_ok (x : El) : halyardref28_Check.f x.f0 x.f1 x.f2 x.f3 x.f4 = some (if okS x = true then 0 else 2) := by
  unfold halyardref28_Check.f okS
  by_cases a1 : (x.f0.size : Int) < 1 <;> by_cases a2 : (x.f0.size : Int) > 32 <;> by_cases a3 : (x.f2.size : Int) < 1 <;> by_cases a4 : (x.f2.size : Int) > 32 <;> by_cases a5 : (x.f1.size : Int) > 32 <;> by_cases a6 : x.f3 = 0 <;> simp [a1, a2, a3, a4, a5, a6] <;> omega
theorem refBytes_val (x : El) (h0 : 0 ≤ x.f3) (h1 : x.f3 < 4294967296) : halyardref28_Bytes.f 9 x.f0 x.f1 x.f2 x.f3 x.f4 = some (bytesK x) := by
  unfold halyardref28_Bytes.f bytesK
  rw [refCheck_ok]
  cases hk : okS x with
  | false => rfl
  | true =>
    have hz := ok_sizes hk
    simp only [if_true, Option.bind_some]
    have hj : halyardref01_Join8.f 9 [x.f0, x.f1, x.f2] = some (enc [x.f0, x.f1, x.f2], 0) := by
      have := join_ref [x.f0, x.f1, x.f2] (by simp) (by intro y hy; simp at hy; rcases hy with rfl | rfl | rfl <;> omega) 3 9 0 ⟨#[]⟩ rfl (by simp) (by decide) (by show 0 + _ ≤ _; omega)
      rw [List.drop_zero, join3 hk] at this
      exact this
    rw [hj]
    simp only [Option.bind_some]
    rw [u64_id _ (by omega) (by omega), num4 _ h0 (by omega), show octet_Put32.f x.f3 = some (put4 x.f3) from rfl]
    simp only [Option.bind_some]
    have e1 := enc3_size x.f0 x.f1 x.f2
    have e2 := put4_size x.f3
    unfold encS lastB
    rw [if_pos (by omega)]
    cases x.f4
    · rw [if_neg (by decide), if_pos (by rw [ByteArray.size_append]; omega), if_neg (by decide)]
    · rw [if_pos rfl, if_pos (by rw [ByteArray.size_append]; omega), if_pos rfl]
theorem rd_enc {t r : ByteArray} (ht : t.size ≤ 255) (hs : (enc1 t ++ r).size ≤ 9000000000000000000) : rd (enc1 t ++ r) = some (t, r) := by
  unfold rd
  rw [read8_enc t r ht hs]
  rfl
theorem last_bt (b : Bool) : lastB b = strOfNums [if b = true then 1 else 0] := by cases b <;> decide +kernel
theorem bt_last (a : Int) (b : Bool) : bt (put4 a ++ lastB b) 4 = if b = true then 1 else 0 := by
  rw [hw_bt_r _ _ _ (by rw [put4_size]; decide), put4_size, last_bt, show (4 : Int) - ((4 : Nat) : Int) = 0 from rfl, hw_bt_n _ 0 (by simp) (by cases b <;> simp) (by cases b <;> simp)]
  rfl
theorem adr_put (a : Int) (b : Bool) (h0 : 0 ≤ a) (h1 : a < 4294967296) : adr (put4 a ++ lastB b) = a := by
  have hx : (put4 a ++ lastB b).extract 0 4 = put4 a := by
    refine hw_ext _ _ (by rw [ByteArray.size_extract, ByteArray.size_append, put4_size, last_size]; rfl) (fun i hi => ?_)
    rw [ByteArray.size_extract, ByteArray.size_append, put4_size, last_size] at hi
    rw [hw_bt_x _ _ _ _ (by rw [ByteArray.size_extract, ByteArray.size_append, put4_size, last_size]; simp; omega)]
    rw [show (((0 : Nat) + ((i : Int)).toNat : Nat) : Int) = (i : Int) by simp]
    exact hw_bt_l _ _ _ (by rw [put4_size]; simp; omega)
  unfold adr
  rw [hx]
  unfold put4
  rw [hw_bt_n _ 0 (by simp) (by simp; omega) (by simp; omega), hw_bt_n _ 1 (by simp) (by simp; omega) (by simp; omega), hw_bt_n _ 2 (by simp) (by simp; omega) (by simp; omega), hw_bt_n _ 3 (by simp) (by simp; omega) (by simp; omega)]
  simp
  omega
theorem encS_parts (x : El) : encS x = enc1 x.f0 ++ (enc1 x.f1 ++ (enc1 x.f2 ++ (put4 x.f3 ++ lastB x.f4))) := by
  unfold encS
  rw [enc3]
  simp only [ByteArray.append_assoc]
theorem encS_size (x : El) : (encS x).size = x.f0.size + x.f1.size + x.f2.size + 8 := by
  unfold encS
  rw [ByteArray.size_append, ByteArray.size_append, enc3_size, put4_size, last_size]
theorem sub_eta (x : El) : (⟨x.f0, x.f1, x.f2, x.f3, (if x.f4 = true then (1 : Int) else 0) == 1⟩ : El) = x := by
  obtain ⟨a, b, c, d, e⟩ := x
  cases e <;> rfl
/-- What was put into bytes is read again. -/
theorem read_enc {x : El} (h : okS x = true) (h0 : 0 ≤ x.f3) (h1 : x.f3 < 4294967296) : readK (encS x) = (x, 0) := by
  have hz := ok_sizes h
  have hsz := encS_size x
  have e := encS_parts x
  have q1 : rd (encS x) = some (x.f0, enc1 x.f1 ++ (enc1 x.f2 ++ (put4 x.f3 ++ lastB x.f4))) := by rw [e]; exact rd_enc (by omega) (by rw [← e]; omega)
  have z1 : (enc1 x.f1 ++ (enc1 x.f2 ++ (put4 x.f3 ++ lastB x.f4))).size ≤ 9000000000000000000 := by
    have := rd_le (by omega) q1; omega
  have q2 := rd_enc (t := x.f1) (r := enc1 x.f2 ++ (put4 x.f3 ++ lastB x.f4)) (by omega) z1
  have z2 : (enc1 x.f2 ++ (put4 x.f3 ++ lastB x.f4)).size ≤ 9000000000000000000 := by
    have := rd_le z1 q2; omega
  have q3 := rd_enc (t := x.f2) (r := put4 x.f3 ++ lastB x.f4) (by omega) z2
  unfold readK
  rw [q1]; dsimp only
  rw [q2]; dsimp only
  rw [q3]; dsimp only
  have es : subOf x.f0 x.f1 x.f2 (put4 x.f3 ++ lastB x.f4) = x := by
    unfold subOf
    rw [adr_put _ _ h0 h1, bt_last]
    exact sub_eta x
  unfold lastK
  rw [es, if_pos ⟨by rw [ByteArray.size_append, put4_size, last_size], by rw [bt_last]; cases x.f4 <;> decide, h⟩]
theorem adr_range (r : ByteArray) : 0 ≤ adr r ∧ adr r < 4294967296 := by
  unfold adr
  have b0 := bt_range (r.extract 0 4) 0
  have b1 := bt_range (r.extract 0 4) 1
  have b2 := bt_range (r.extract 0 4) 2
  have b3 := bt_range (r.extract 0 4) 3
  omega
theorem last_back {r : ByteArray} (h : r.size = 5) (hb : bt r 4 ≤ 1) : put4 (adr r) ++ lastB (bt r 4 == 1) = r := by
  have b4 := bt_range r 4
  have hx : ∀ i : Nat, i < 4 → bt (r.extract 0 4) i = bt r i := fun i hi => by
    rw [hw_bt_x _ _ _ _ (by rw [ByteArray.size_extract]; simp; omega)]
    congr 1; simp
  have x0 := hx 0 (by omega)
  have x1 := hx 1 (by omega)
  have x2 := hx 2 (by omega)
  have x3 := hx 3 (by omega)
  have b0 := bt_range (r.extract 0 4) 0
  have b1 := bt_range (r.extract 0 4) 1
  have b2 := bt_range (r.extract 0 4) 2
  have b3 := bt_range (r.extract 0 4) 3
  refine hw_ext _ _ (by rw [ByteArray.size_append, put4_size, last_size, h]) (fun i hi => ?_)
  rw [ByteArray.size_append, put4_size, last_size] at hi
  have hc : i = 0 ∨ i = 1 ∨ i = 2 ∨ i = 3 ∨ i = 4 := by omega
  rcases hc with rfl | rfl | rfl | rfl | rfl
  · rw [hw_bt_l _ _ _ (by rw [put4_size]; decide)]
    unfold put4 adr
    rw [hw_bt_n _ _ (by simp) (by simp; omega) (by simp; omega)]
    simp at x0 ⊢
    omega
  · rw [hw_bt_l _ _ _ (by rw [put4_size]; decide)]
    unfold put4 adr
    rw [hw_bt_n _ _ (by simp) (by simp; omega) (by simp; omega)]
    simp at x1 ⊢
    omega
  · rw [hw_bt_l _ _ _ (by rw [put4_size]; decide)]
    unfold put4 adr
    rw [hw_bt_n _ _ (by simp) (by simp; omega) (by simp; omega)]
    simp at x2 ⊢
    omega
  · rw [hw_bt_l _ _ _ (by rw [put4_size]; decide)]
    unfold put4 adr
    rw [hw_bt_n _ _ (by simp) (by simp; omega) (by simp; omega)]
    simp at x3 ⊢
    omega
  · rw [show (((4 : Nat)) : Int) = 4 from rfl, bt_last]
    have : bt r 4 = 0 ∨ bt r 4 = 1 := by omega
    rcases this with e | e <;> rw [e] <;> rfl
/-- What is read has the bytes that it was of. -/
theorem read_back {s : ByteArray} {x : El} {k : Int} (hs : s.size ≤ 9000000000000000000) (h : readK s = (x, k)) (h0 : k = 0) : okS x = true ∧ encS x = s ∧ 0 ≤ x.f3 ∧ x.f3 < 4294967296 := by
  subst h0
  unfold readK at h
  split at h
  · cases h
  · rename_i n r1 q1
    split at h
    · cases h
    · rename_i c r2 q2
      split at h
      · cases h
      · rename_i p r3 q3
        unfold lastK at h
        split at h
        · rename_i hc
          obtain ⟨h5, h4, hk⟩ := hc
          have hx : subOf n c p r3 = x := by cases h; rfl
          subst hx
          have d1 := (rd_size hs q1).2
          have z1 := rd_le hs q1
          have d2 := (rd_size (by omega) q2).2
          have z2 := rd_le (by omega) q2
          have d3 := (rd_size (by omega) q3).2
          refine ⟨hk, ?_, adr_range r3⟩
          rw [encS_parts]
          show enc1 n ++ (enc1 c ++ (enc1 p ++ (put4 (adr r3) ++ lastB (bt r3 4 == 1)))) = s
          rw [last_back h5 h4, ← d3, ← d2, ← d1]
        · cases h
theorem read_no {s : ByteArray} {x : El} {k : Int} (h : readK s = (x, k)) (h0 : k ≠ 0) : x = z24 ∧ k = 7 := by
  unfold readK at h
  split at h
  · cases h; exact ⟨rfl, rfl⟩
  · split at h
    · cases h; exact ⟨rfl, rfl⟩
    · split at h
      · cases h; exact ⟨rfl, rfl⟩
      · unfold lastK at h
        split at h
        · cases h; exact absurd rfl h0
        · cases h; exact ⟨rfl, rfl⟩
end Go.Proofs.YtmgpaccgjafjeaaHVR
