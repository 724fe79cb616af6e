/- The law halyard/halyardlaw18.PapBack in plain Lean: what the call comes to is true, whatever the input; no condition. -/
import Derived.Test.YtdlpoemjgeehgaaPG18x
import Derived.Test.YtdlpoemjgeehgaaHW
namespace Go.Proofs.Ytdlpoemjgeehgaa.Pure
open Go.RowKit Go.Proofs.Ytdlpoemjgeehgaa.PG18 Go.Proofs.YtdlpoemjgeehgaaW.PrintWords Go.Proofs.YtdlpoemjgeehgaaW.PrintLast Go.Proofs.YtdlpoemjgeehgaaHW
/-! Plain facts on octet's texts. -/
theorem op_strs_append (xs ys : List Int) : strOfNums xs ++ strOfNums ys = strOfNums (xs ++ ys) := by
  refine ByteArray.ext ?_
  rw [ByteArray.data_append]
  simp [strOfNums]
def enc1 (s : ByteArray) : ByteArray := strOfNums [(s.size : Int)] ++ s
def enc : List ByteArray → ByteArray
  | [] => ⟨#[]⟩
  | x :: r => enc1 x ++ enc r
def small (l : List ByteArray) : Prop := ∀ x ∈ l, x.size ≤ 255
theorem op_nil_append (a : ByteArray) : (⟨#[]⟩ : ByteArray) ++ a = a := ByteArray.empty_append
theorem op_append_nil (a : ByteArray) : a ++ (⟨#[]⟩ : ByteArray) = a := ByteArray.append_empty
theorem enc1_size (s : ByteArray) : (enc1 s).size = s.size + 1 := by
  unfold enc1; rw [ByteArray.size_append, hw_strs]; simp; omega
theorem enc_append : ∀ (l m : List ByteArray), enc (l ++ m) = enc l ++ enc m
  | [], m => by rw [List.nil_append]; show _ = (⟨#[]⟩ : ByteArray) ++ _; rw [op_nil_append]
  | x :: r, m => by
    show enc1 x ++ enc (r ++ m) = enc1 x ++ enc r ++ enc m
    rw [enc_append r m, ByteArray.append_assoc]
theorem op_empty_of {s : ByteArray} (h : s.toList = ([] : List UInt8)) : s = ⟨#[]⟩ := by
  rw [ByteArray.toList_eq] at h
  exact ByteArray.ext (by simpa using h)
theorem op_size_of {s : ByteArray} : s.toList = ([] : List UInt8) ↔ s.size = 0 := by
  rw [ByteArray.toList_eq]
  constructor
  · intro h; have := congrArg List.length h; rw [Array.length_toList] at this; exact this
  · intro h; exact List.eq_nil_of_length_eq_zero (by rw [Array.length_toList]; exact h)
theorem text8_val (s : ByteArray) : octet_Text8.f s = if s.size ≤ 255 then some (enc1 s, 0) else some (⟨#[]⟩, 5) := by
  unfold octet_Text8.f enc1
  by_cases h : s.size ≤ 255
  · rw [if_neg (by omega), if_pos h]
    simp only [Option.bind_some]
    rw [if_pos (by rw [hw_strs]; simp only [List.length_cons, List.length_nil]; omega), show (s.size : Int) % 256 = s.size from by omega]
  · rw [if_pos (by omega), if_neg h]
/-- What Read8 tells: the first text and the rest, or an end. -/
theorem read8_val (s : ByteArray) (hs : s.size ≤ 9000000000000000000) : (∃ t rest, octet_Read8.f s = some (t, rest, 0) ∧ t.size ≤ 255 ∧ s = enc1 t ++ rest ∧ t = s.extract 1 (1 + (bt s 0).toNat) ∧ rest = s.extract (1 + (bt s 0).toNat) s.size ∧ 0 < s.size ∧ bt s 0 < s.size) ∨
    (octet_Read8.f s = some (⟨#[]⟩, ⟨#[]⟩, 6) ∧ (s.size = 0 ∨ (s.size : Int) ≤ bt s 0)) := by
  have b := bt_range s 0
  unfold octet_Read8.f
  by_cases c0 : s.toList = ([] : List UInt8)
  · rw [if_pos c0]; exact .inr ⟨rfl, .inl (op_size_of.1 c0)⟩
  have hp : 0 < s.size := by have := mt op_size_of.2 c0; omega
  have e1 : wrap64 (bt s 0) = bt s 0 := by unfold wrap64; omega
  have e2 : wrap64 (1 + bt s 0) = 1 + bt s 0 := by unfold wrap64; omega
  rw [if_neg c0, e1, e2, if_pos (by omega)]
  by_cases c1 : (s.size : Int) ≤ bt s 0
  · rw [if_pos c1]; exact .inr ⟨rfl, .inr c1⟩
  rw [if_neg c1, if_pos (by omega), if_pos (by omega), if_pos (by omega)]
  obtain ⟨n, hn⟩ : ∃ n : Nat, (n : Int) = bt s 0 := ⟨(bt s 0).toNat, by omega⟩
  rw [show (1 + bt s 0).toNat = 1 + n from by omega, show (bt s 0).toNat = n from by omega]
  have h1 : (s.extract 1 (1 + n)).size = n := by rw [ByteArray.size_extract]; omega
  have h2 : (s.extract (1 + n) s.size).size = s.size - (1 + n) := by rw [ByteArray.size_extract]; omega
  refine .inl ⟨_, _, rfl, by omega, ?_, rfl, rfl, hp, by omega⟩
  refine hw_ext _ _ (by rw [ByteArray.size_append, enc1_size, h1, h2]; omega) (fun i hi => ?_)
  unfold enc1
  rw [h1]
  by_cases i0 : i = 0
  · subst i0
    rw [hw_bt_l _ _ _ (by rw [ByteArray.size_append, hw_strs]; simp only [List.length_cons, List.length_nil, Int.toNat_natCast]; omega), hw_bt_l _ _ _ (by rw [hw_strs]; simp), hw_bt_n _ _ (by simp) (by simp) (by simp; omega)]
    simpa using hn.symm
  · by_cases i1 : i < 1 + n
    · rw [hw_bt_l _ _ _ (by rw [ByteArray.size_append, hw_strs, h1]; simp; omega), hw_bt_r _ _ _ (by rw [hw_strs]; simp; omega), hw_strs, hw_bt_x _ _ _ _ (by rw [h1]; simp; omega)]
      congr 1; simp; omega
    · rw [hw_bt_r _ _ _ (by rw [ByteArray.size_append, hw_strs, h1]; simp; omega), ByteArray.size_append, hw_strs, h1, hw_bt_x _ _ _ _ (by rw [h2]; simp; omega)]
      congr 1; simp; omega
/-- Of bytes that begin with a text's, Read8 gives that text, and the rest. -/
theorem read8_enc (t rest : ByteArray) (ht : t.size ≤ 255) (hs : (enc1 t ++ rest).size ≤ 9000000000000000000) : octet_Read8.f (enc1 t ++ rest) = some (t, rest, 0) := by
  have hb : bt (enc1 t ++ rest) 0 = t.size := by
    rw [hw_bt_l _ _ _ (by rw [enc1_size]; simp)]
    unfold enc1
    rw [hw_bt_l _ _ _ (by rw [hw_strs]; simp), hw_bt_n _ _ (by simp) (by simp) (by simp; omega)]
    simp
  have hz : (enc1 t ++ rest).size = t.size + 1 + rest.size := by rw [ByteArray.size_append, enc1_size]
  rcases read8_val _ hs with ⟨t', rest', h, ht', he, h1, h2, _, _⟩ | ⟨_, h | h⟩
  · rw [h]
    rw [hb] at h1 h2
    have e1 : t' = t := by
      rw [h1]
      refine hw_ext _ _ (by rw [ByteArray.size_extract, hz]; simp; omega) (fun i hi => ?_)
      rw [ByteArray.size_extract, hz] at hi
      simp only [Int.toNat_natCast] at hi ⊢
      rw [hw_bt_x _ _ _ _ (by rw [ByteArray.size_extract, hz]; simp; omega), hw_bt_l _ _ _ (by rw [enc1_size]; simp; omega)]
      unfold enc1
      rw [hw_bt_r _ _ _ (by rw [hw_strs]; simp; omega), hw_strs]
      congr 1; simp; omega
    have e2 : rest' = rest := by
      rw [h2]
      refine hw_ext _ _ (by rw [ByteArray.size_extract, hz]; simp; omega) (fun i hi => ?_)
      rw [ByteArray.size_extract, hz] at hi
      simp only [Int.toNat_natCast] at hi ⊢
      rw [hw_bt_x _ _ _ _ (by rw [ByteArray.size_extract, hz]; simp; omega), hw_bt_r _ _ _ (by rw [enc1_size]; simp; omega), enc1_size]
      congr 1; simp; omega
    rw [e1, e2]
  · omega
  · rw [hb] at h; omega
theorem op_ext_iff {a b : ByteArray} : a.toList = b.toList ↔ a = b := ⟨hw_toList_inj, fun h => by rw [h]⟩
theorem enc_size_le : ∀ l : List ByteArray, l.length ≤ (enc l).size
  | [] => Nat.zero_le _
  | x :: r => by
    have := enc_size_le r
    show (r.length + 1) ≤ (enc1 x ++ enc r).size
    rw [ByteArray.size_append, enc1_size]; omega

/-- Joining. -/
theorem join_val : ∀ (l : List ByteArray) (a : ByteArray), (small l → a.size + (enc l).size ≤ 1000000000000 → octet_Join8.acc a l = some (a ++ enc l, 0)) ∧ (¬ small l → (∀ x ∈ l, x.size ≤ 140737488351232) → a.size + 300 * l.length ≤ 1000000000000 → octet_Join8.acc a l = some (⟨#[]⟩, 5))
  | [], a => ⟨fun _ _ => by simp only [octet_Join8.acc]; show _ = some (a ++ ⟨#[]⟩, 0); rw [op_append_nil], fun h => absurd (fun x hx => by simp at hx) h⟩
  | x :: r, a => by
    obtain ⟨ih1, ih2⟩ := join_val r (a ++ enc1 x)
    refine ⟨fun hs hz => ?_, fun hs hb hz => ?_⟩
    · have hx := hs x (by simp)
      have hz' : a.size + (enc1 x ++ enc r).size ≤ 1000000000000 := hz
      rw [ByteArray.size_append, enc1_size] at hz'
      simp only [octet_Join8.acc, text8_val]
      rw [if_pos hx]
      simp only [Option.bind_some, if_true]
      rw [if_pos (by rw [enc1_size]; omega), ih1 (fun y hy => hs y (by simp [hy])) (by rw [ByteArray.size_append, enc1_size]; omega)]
      show _ = some (a ++ (enc1 x ++ enc r), 0)
      rw [ByteArray.append_assoc]
    · simp only [octet_Join8.acc, text8_val]
      simp only [List.length_cons] at hz
      by_cases hx : x.size ≤ 255
      · rw [if_pos hx]
        simp only [Option.bind_some, if_true]
        rw [if_pos (by rw [enc1_size]; omega), ih2 (fun h => hs (fun y hy => by
          rcases List.mem_cons.1 hy with rfl | hy
          · exact hx
          · exact h y hy)) (fun y hy => hb y (by simp [hy])) (by rw [ByteArray.size_append, enc1_size]; omega)]
      · rw [if_neg hx]
        simp

theorem read8_ref (s : ByteArray) : halyardref01_Read8.f s = octet_Read8.f s := by
  have b := bt_range s 0
  have e1 : wrap64 (bt s 0) = bt s 0 := by unfold wrap64; omega
  have e2 : wrap64 (1 + bt s 0) = 1 + bt s 0 := by unfold wrap64; omega
  unfold halyardref01_Read8.f octet_Read8.f
  rw [e1, e2]
  by_cases c0 : s.toList = ([] : List UInt8)
  · rw [if_pos c0, if_pos c0]
  rw [if_neg c0, if_neg c0]
  by_cases c1 : (s.size : Int) ≤ bt s 0
  · rw [if_pos c1, if_pos (show (s.size : Int) < 1 + bt s 0 by omega)]
  · rw [if_neg c1, if_neg (show ¬ (s.size : Int) < 1 + bt s 0 by omega)]
theorem text8_ref (s : ByteArray) : halyardref01_Text8.f s = octet_Text8.f s := by
  rw [text8_val]
  unfold halyardref01_Text8.f enc1
  by_cases h : s.size ≤ 255
  · rw [if_neg (by omega), if_pos h]
  · rw [if_pos (by omega), if_neg h]
theorem join_ref (l : List ByteArray) (hl : l.length ≤ 1000) (_hb : ∀ x ∈ l, x.size ≤ 140737488351232) : ∀ (d k i : Nat) (a : ByteArray), l.length - i = d → i ≤ l.length → d < k → a.size + 300 * d ≤ 1000000000 →
    halyardref01_Join8.l0 k l a (i : Int) = octet_Join8.acc a (l.drop i) := by
  intro d
  induction d with
  | zero =>
    intro k i a hd hi hk ha
    obtain ⟨k, rfl⟩ : ∃ m, k = m + 1 := ⟨k - 1, by omega⟩
    simp only [halyardref01_Join8.l0]
    rw [if_neg (by omega), List.drop_eq_nil_of_le (by omega)]
    rfl
  | succ d ih =>
    intro k i a hd hi hk ha
    obtain ⟨k, rfl⟩ : ∃ m, k = m + 1 := ⟨k - 1, by omega⟩
    have h1 : i < l.length := by omega
    have hr : rdOf ByteArray.empty l (i : Int) = l[i] := by simp [rdOf, List.getD_eq_getElem?_getD, List.getElem?_eq_getElem h1]
    simp only [halyardref01_Join8.l0]
    rw [if_pos (by omega), if_pos (by omega), hr, text8_ref, text8_val, List.drop_eq_getElem_cons h1]
    simp only [octet_Join8.acc, text8_val]
    by_cases hx : l[i].size ≤ 255
    · rw [if_pos hx]
      simp only [Option.bind_some, if_true]
      rw [if_pos (by rw [enc1_size]; omega), if_pos (by rw [enc1_size]; omega), show wrap64 ((i : Int) + 1) = ((i + 1 : Nat) : Int) from by unfold wrap64; omega, ih k (i + 1) _ (by omega) (by omega) (by omega) (by rw [ByteArray.size_append, enc1_size]; omega)]
    · rw [if_neg hx]
      rfl

theorem pp_nil : (⟨#[]⟩ : ByteArray).toList = ([] : List UInt8) := op_size_of.2 rfl
theorem pp_small2 {n s : ByteArray} : small [n, s] ↔ n.size ≤ 255 ∧ s.size ≤ 255 := by unfold small; simp
theorem pp_small1 {n : ByteArray} : small [n] ↔ n.size ≤ 255 := by unfold small; simp
theorem pp_enc2 (n s : ByteArray) : enc [n, s] = enc1 n ++ enc1 s := by show enc1 n ++ (enc1 s ++ ⟨#[]⟩) = _; rw [op_append_nil]
theorem pp_enc1 (n : ByteArray) : enc [n] = enc1 n := op_append_nil _
theorem request_val (i : Int) (n s : ByteArray) (hn : n.size ≤ 140737488351232) (hs : s.size ≤ 140737488351232) : (n.size ≤ 255 ∧ s.size ≤ 255 ∧ pap_Request.f i n s = some (1, i, enc1 n ++ enc1 s, 0)) ∨ (¬ (n.size ≤ 255 ∧ s.size ≤ 255) ∧ pap_Request.f i n s = some (0, 0, ⟨#[]⟩, 5)) := by
  by_cases h : n.size ≤ 255 ∧ s.size ≤ 255
  · refine .inl ⟨h.1, h.2, ?_⟩
    unfold pap_Request.f pap_packet.f octet_Join8.f
    rw [(join_val [n, s] ⟨#[]⟩).1 (pp_small2.2 h) (by rw [pp_enc2, ByteArray.size_append, enc1_size, enc1_size]; show 0 + _ ≤ _; omega), op_nil_append, pp_enc2]
    rfl
  · refine .inr ⟨h, ?_⟩
    unfold pap_Request.f pap_packet.f octet_Join8.f
    rw [(join_val [n, s] ⟨#[]⟩).2 (fun g => h (pp_small2.1 g)) (by simp; exact ⟨hn, hs⟩) (by show 0 + 300 * 2 ≤ _; omega)]
    rfl
theorem answer_val (i : Int) (b : Bool) (m : ByteArray) (hm : m.size ≤ 140737488351232) : (m.size ≤ 255 ∧ pap_Answer.f i b m = some (if b then 2 else 3, i, enc1 m, 0)) ∨ (¬ m.size ≤ 255 ∧ pap_Answer.f i b m = some (0, 0, ⟨#[]⟩, 5)) := by
  by_cases h : m.size ≤ 255
  · refine .inl ⟨h, ?_⟩
    unfold pap_Answer.f pap_packet.f octet_Join8.f
    rw [(join_val [m] ⟨#[]⟩).1 (pp_small1.2 h) (by rw [pp_enc1, enc1_size]; show 0 + _ ≤ _; omega), op_nil_append, pp_enc1]
    cases b <;> rfl
  · refine .inr ⟨h, ?_⟩
    unfold pap_Answer.f pap_packet.f octet_Join8.f
    rw [(join_val [m] ⟨#[]⟩).2 (fun g => h (pp_small1.1 g)) (by simpa using hm) (by show 0 + 300 * 1 ≤ _; omega)]
    cases b <;> rfl
theorem request_ref (k : Nat) (hk : 10 ≤ k) (i : Int) (n s : ByteArray) (hn : n.size ≤ 140737488351232) (hs : s.size ≤ 140737488351232) : halyardref18_Request.f k i n s = pap_Request.f i n s := by
  have e : halyardref01_Join8.f k [n, s] = octet_Join8.f [n, s] := by
    have := join_ref [n, s] (by simp) (by simp; exact ⟨hn, hs⟩) 2 k 0 ⟨#[]⟩ rfl (by simp) (by omega) (by decide)
    unfold halyardref01_Join8.f octet_Join8.f
    exact this
  unfold halyardref18_Request.f pap_Request.f pap_packet.f
  rw [e]
  cases octet_Join8.f [n, s] with
  | none => rfl
  | some x =>
    simp only [Option.bind_some]
    by_cases hx : x.2 = 0
    · rw [if_pos hx]; rfl
    · rw [if_neg hx]; rfl
theorem answer_ref (i : Int) (b : Bool) (m : ByteArray) (hm : m.size ≤ 140737488351232) : halyardref18_Answer.f i b m = pap_Answer.f i b m := by
  unfold halyardref18_Answer.f
  rw [text8_ref, text8_val]
  rcases answer_val i b m hm with ⟨h, e⟩ | ⟨h, e⟩
  · rw [if_pos h, e]; cases b <;> rfl
  · rw [if_neg h, e]; rfl
/-- What two texts tell. -/
theorem two_val (d : ByteArray) (hd : d.size ≤ 9000000000000000000) : (∃ n s, n.size ≤ 255 ∧ s.size ≤ 255 ∧ d = enc1 n ++ enc1 s ∧ octet_Read8.f d = some (n, enc1 s, 0) ∧ octet_Read8.f (enc1 s) = some (s, ⟨#[]⟩, 0) ∧ pap_texts.f d 2 = some ([n, s], 0))
    ∨ (octet_Read8.f d = some (⟨#[]⟩, ⟨#[]⟩, 6) ∧ pap_texts.f d 2 = some ([⟨#[]⟩, ⟨#[]⟩], 6))
    ∨ (∃ n r, d = enc1 n ++ r ∧ n.size ≤ 255 ∧ octet_Read8.f d = some (n, r, 0) ∧ octet_Read8.f r = some (⟨#[]⟩, ⟨#[]⟩, 6) ∧ pap_texts.f d 2 = some ([⟨#[]⟩, ⟨#[]⟩], 6))
    ∨ (∃ n s r, d = enc1 n ++ (enc1 s ++ r) ∧ n.size ≤ 255 ∧ s.size ≤ 255 ∧ r.toList ≠ [] ∧ octet_Read8.f d = some (n, enc1 s ++ r, 0) ∧ octet_Read8.f (enc1 s ++ r) = some (s, r, 0) ∧ pap_texts.f d 2 = some ([⟨#[]⟩, ⟨#[]⟩], 7)) := by
  unfold pap_texts.f
  rw [if_neg (by decide), if_pos rfl]
  rcases read8_val d hd with ⟨t, r, h, ht, he, -⟩ | ⟨h, -⟩
  · have hz : r.size ≤ 9000000000000000000 := by rw [he, ByteArray.size_append] at hd; omega
    rw [h]
    simp only [Option.bind_some, if_true]
    rcases read8_val r hz with ⟨u, q, g, hu, ge, -⟩ | ⟨g, -⟩
    · rw [g]
      simp only [Option.bind_some, if_true]
      by_cases c : q.toList = ([] : List UInt8)
      · rw [if_pos c]
        have := op_empty_of c
        subst this
        rw [op_append_nil] at ge
        subst ge
        exact .inl ⟨t, u, ht, hu, he, rfl, g, rfl⟩
      · rw [if_neg c]
        subst ge
        exact .inr (.inr (.inr ⟨t, u, q, he, ht, hu, c, rfl, g, rfl⟩))
    · rw [g]
      exact .inr (.inr (.inl ⟨t, r, he, ht, rfl, g, rfl⟩))
  · rw [h]
    exact .inr (.inl ⟨rfl, rfl⟩)
theorem one_val (d : ByteArray) (hd : d.size ≤ 9000000000000000000) : (∃ n, n.size ≤ 255 ∧ d = enc1 n ∧ octet_Read8.f d = some (n, ⟨#[]⟩, 0) ∧ pap_texts.f d 1 = some ([n], 0))
    ∨ (octet_Read8.f d = some (⟨#[]⟩, ⟨#[]⟩, 6) ∧ pap_texts.f d 1 = some ([⟨#[]⟩], 6))
    ∨ (∃ n r, r.toList ≠ [] ∧ octet_Read8.f d = some (n, r, 0) ∧ pap_texts.f d 1 = some ([⟨#[]⟩], 7)) := by
  unfold pap_texts.f
  rw [if_pos rfl]
  rcases read8_val d hd with ⟨t, r, h, ht, he, -⟩ | ⟨h, -⟩
  · rw [h]
    simp only [Option.bind_some, if_true]
    by_cases c : r.toList = ([] : List UInt8)
    · rw [if_pos c]
      have := op_empty_of c
      subst this
      rw [op_append_nil] at he
      exact .inl ⟨t, ht, he, rfl, rfl⟩
    · rw [if_neg c]
      exact .inr (.inr ⟨t, r, c, rfl, rfl⟩)
  · rw [h]
    exact .inr (.inl ⟨rfl, rfl⟩)
theorem asked_ref (c i : Int) (d : ByteArray) (hd : d.size ≤ 9000000000000000000) : halyardref18_Asked.f c i d = pap_Asked.f c i d := by
  unfold halyardref18_Asked.f pap_Asked.f
  by_cases hc : c = 1
  · rw [if_pos hc, if_pos hc, read8_ref]
    rcases two_val d hd with ⟨n, s, _, _, _, h1, h2, h3⟩ | ⟨h1, h3⟩ | ⟨n, r, _, _, h1, h2, h3⟩ | ⟨n, s, r, _, _, _, hr, h1, h2, h3⟩
    · rw [h1, h3]; simp only [Option.bind_some, if_true]; rw [read8_ref, h2]; simp only [Option.bind_some, if_true]; rw [if_pos pp_nil]; rfl
    · rw [h1, h3]; rfl
    · rw [h1, h3]; simp only [Option.bind_some, if_true]; rw [read8_ref, h2]; rfl
    · rw [h1, h3]; simp only [Option.bind_some, if_true]; rw [read8_ref, h2]; simp only [Option.bind_some, if_true]; rw [if_neg hr]; rfl
  · rw [if_neg hc, if_neg hc]
/-- What a request tells: its texts, or why nothing. -/
theorem asked_val (c i : Int) (d : ByteArray) (hd : d.size ≤ 9000000000000000000) : (∃ n s, n.size ≤ 255 ∧ s.size ≤ 255 ∧ c = 1 ∧ d = enc1 n ++ enc1 s ∧ pap_Asked.f c i d = some (n, s, 0)) ∨ (∃ e, e ≠ 0 ∧ pap_Asked.f c i d = some (⟨#[]⟩, ⟨#[]⟩, e)) := by
  unfold pap_Asked.f
  by_cases hc : c = 1
  · rw [if_pos hc]
    rcases two_val d hd with ⟨n, s, a, b, e, h1, h2, h3⟩ | ⟨h1, h3⟩ | ⟨n, r, _, _, h1, h2, h3⟩ | ⟨n, s, r, _, _, _, hr, h1, h2, h3⟩
    · rw [h3]; exact .inl ⟨n, s, a, b, hc, e, rfl⟩
    · rw [h3]; exact .inr ⟨6, by decide, rfl⟩
    · rw [h3]; exact .inr ⟨6, by decide, rfl⟩
    · rw [h3]; exact .inr ⟨7, by decide, rfl⟩
  · rw [if_neg hc]; exact .inr ⟨8, by decide, rfl⟩
theorem asked_enc (i : Int) (n s : ByteArray) (hn : n.size ≤ 255) (hs : s.size ≤ 255) : pap_Asked.f 1 i (enc1 n ++ enc1 s) = some (n, s, 0) := by
  have z1 := read8_enc n (enc1 s) hn (by rw [ByteArray.size_append, enc1_size, enc1_size]; omega)
  have z2 := read8_enc s ⟨#[]⟩ hs (by rw [op_append_nil, enc1_size]; omega)
  rw [op_append_nil] at z2
  unfold pap_Asked.f pap_texts.f
  rw [if_pos rfl, if_neg (by decide), if_pos rfl, z1]
  simp only [Option.bind_some, if_true]
  rw [z2]
  simp only [Option.bind_some, if_true]
  rw [if_pos pp_nil]
  rfl
theorem answered_ref (k : Nat) (hk : 1 ≤ k) (c i : Int) (d : ByteArray) (hd : d.size ≤ 9000000000000000000) : halyardref18_Answered.f k c i d = pap_Answered.f k c i d := by
  obtain ⟨k, rfl⟩ : ∃ m, k = m + 1 := ⟨k - 1, by omega⟩
  have key : ∀ b, halyardref18_Answered.j0 (k + 1) b c i d = pap_Answered.j0 (k + 1) b c i d := by
    intro b
    cases b with
    | true => rfl
    | false =>
      simp only [halyardref18_Answered.j0, pap_Answered.j0, Bool.false_eq_true, if_false]
      rw [read8_ref]
      rcases one_val d hd with ⟨n, _, _, h1, h3⟩ | ⟨h1, h3⟩ | ⟨n, r, hr, h1, h3⟩
      · rw [h1, h3]; simp only [Option.bind_some, if_true]; rw [if_pos pp_nil]; rfl
      · rw [h1, h3]; rfl
      · rw [h1, h3]; simp only [Option.bind_some, if_true]; rw [if_neg hr]; rfl
  unfold halyardref18_Answered.f pap_Answered.f
  rw [key, key]
theorem answered_val (k : Nat) (hk : 1 ≤ k) (c i : Int) (d : ByteArray) (hd : d.size ≤ 9000000000000000000) : (∃ m b, m.size ≤ 255 ∧ c = (if b then 2 else 3) ∧ d = enc1 m ∧ pap_Answered.f k c i d = some (b, m, 0)) ∨ (∃ e, e ≠ 0 ∧ pap_Answered.f k c i d = some (false, ⟨#[]⟩, e)) := by
  obtain ⟨k, rfl⟩ : ∃ m, k = m + 1 := ⟨k - 1, by omega⟩
  have key : ∀ (b : Bool), c = (if b then 2 else 3) → (∃ m b, m.size ≤ 255 ∧ c = (if b then 2 else 3) ∧ d = enc1 m ∧ pap_Answered.j0 (k + 1) false c i d = some (b, m, 0)) ∨ (∃ e, e ≠ 0 ∧ pap_Answered.j0 (k + 1) false c i d = some (false, ⟨#[]⟩, e)) := by
    intro b hb
    simp only [pap_Answered.j0, Bool.false_eq_true, if_false]
    rcases one_val d hd with ⟨n, hn, he, h1, h3⟩ | ⟨h1, h3⟩ | ⟨n, r, hr, h1, h3⟩
    · rw [h3]
      refine .inl ⟨n, b, hn, hb, he, ?_⟩
      subst hb
      cases b <;> rfl
    · rw [h3]; exact .inr ⟨6, by decide, rfl⟩
    · rw [h3]; exact .inr ⟨7, by decide, rfl⟩
  unfold pap_Answered.f
  by_cases h2 : c = 2
  · rw [if_pos h2]; exact key true h2
  · rw [if_neg h2]
    by_cases h3 : c = 3
    · subst h3; exact key false rfl
    · rw [show (c != 3) = true from bne_iff_ne.mpr h3]; exact .inr ⟨8, by decide, rfl⟩
theorem answered_enc (k : Nat) (hk : 1 ≤ k) (i : Int) (b : Bool) (m : ByteArray) (hm : m.size ≤ 255) : pap_Answered.f k (if b then 2 else 3) i (enc1 m) = some (b, m, 0) := by
  obtain ⟨k, rfl⟩ : ∃ m, k = m + 1 := ⟨k - 1, by omega⟩
  have z2 := read8_enc m ⟨#[]⟩ hm (by rw [op_append_nil, enc1_size]; omega)
  rw [op_append_nil] at z2
  have z3 : pap_texts.f (enc1 m) 1 = some ([m], 0) := by
    unfold pap_texts.f
    rw [if_pos rfl, z2]
    simp only [Option.bind_some, if_true]
    rw [if_pos pp_nil]
  unfold pap_Answered.f
  cases b <;> (simp [pap_Answered.j0, z3]; rfl)
theorem alive_true : halyardlaw18_alive.f = some true := by decide +kernel

theorem PapBack (a0 : Int) (a1 a2 : ByteArray) (a3 : Bool) (p0 p1 : Int) (p2 : ByteArray) (h1 : a1.size ≤ 140737488351232) (h2 : a2.size ≤ 140737488351232) (h3 : p2.size ≤ 140737488351232) : ∃ k, halyardlaw18_PapBack.f k a0 a1 a2 a3 p0 p1 p2 = some true := by
  refine ⟨20, ?_⟩
  have j2 : ∀ x21 x22 x23, (x23 = 0 ∨ (x21 = ⟨#[]⟩ ∧ x22 = ⟨#[]⟩)) → halyardlaw18_PapBack.j2 18 x21 x22 x23 p0 p1 p2 = some true := by
    intro x21 x22 x23 hx
    simp only [halyardlaw18_PapBack.j2]
    rw [alive_true]
    rcases answered_val 17 (by decide) p0 p1 p2 (by omega) with ⟨m, b, hm, hc, hd, h⟩ | ⟨e, he, h⟩
    · rw [h]
      simp only [Option.bind_some, if_true]
      rcases answer_val p1 b m (by omega) with ⟨_, g⟩ | ⟨g, _⟩
      · rw [g, ← hc, ← hd]
        simp only [Option.bind_some, if_true, beq_self_eq_true, Bool.not_true, Bool.or_self, Bool.false_eq_true, if_false]
        rcases hx with hx | ⟨hx, hy⟩
        · rw [if_pos hx]
        · subst hx hy; simp
      · exact absurd hm g
    · rw [h]
      simp only [Option.bind_some]
      rw [if_neg he]
      rcases hx with hx | ⟨hx, hy⟩
      · rw [if_pos hx]; simp
      · subst hx hy; simp
  have j1 : halyardlaw18_PapBack.j1 19 p0 p1 p2 = some true := by
    simp only [halyardlaw18_PapBack.j1]
    rcases asked_val p0 p1 p2 (by omega) with ⟨n, s, hn, hs, hc, hd, h⟩ | ⟨e, he, h⟩
    · rw [h]
      simp only [Option.bind_some, if_true]
      rcases request_val p1 n s (by omega) (by omega) with ⟨_, _, g⟩ | ⟨g, _⟩
      · rw [g, ← hc, ← hd]
        simp only [Option.bind_some, if_true, beq_self_eq_true, Bool.not_true, Bool.or_self, Bool.false_eq_true, if_false]
        exact j2 _ _ _ (.inl rfl)
      · exact absurd ⟨hn, hs⟩ g
    · rw [h]
      simp only [Option.bind_some]
      rw [if_neg he]
      exact j2 _ _ _ (.inr ⟨rfl, rfl⟩)
  have j0 : halyardlaw18_PapBack.j0 20 a0 a2 a3 p0 p1 p2 = some true := by
    simp only [halyardlaw18_PapBack.j0]
    rcases answer_val a0 a3 a2 h2 with ⟨hm, g⟩ | ⟨_, g⟩
    · rw [g]
      simp only [Option.bind_some, if_true]
      rw [answered_enc 19 (by decide) a0 a3 a2 hm]
      simp only [Option.bind_some, if_true, bne_self_eq_false, Bool.false_eq_true, if_false]
      exact j1
    · rw [g]
      exact j1
  unfold halyardlaw18_PapBack.f
  rw [alive_true]
  split
  · rfl
  rcases request_val a0 a1 a2 h1 h2 with ⟨hn, hs, g⟩ | ⟨_, g⟩
  · unfold pap_Check.f
    rw [g]
    simp only [Option.bind_some, if_true]
    rw [asked_enc a0 a1 a2 hn hs]
    simp only [Option.bind_some, if_true, beq_self_eq_true]
    exact j0
  · rw [g]
    exact j0

end Go.Proofs.Ytdlpoemjgeehgaa.Pure
