/- The walk of the law halyard/halyardlaw18.PapApart: the call returns true, whatever the input; no condition. -/
import Derived.Test.YtdlpoemjgeehgaaPG18x0
import Derived.Test.YtdlpoemjgeehgaaPG18x1
import Derived.Test.YtdlpoemjgeehgaaPG18x2
import Derived.Test.YtdlpoemjgeehgaaPG18x3
import Derived.Test.YtdlpoemjgeehgaaPG18x4
import Derived.Test.YtdlpoemjgeehgaaPG18x5
import Derived.Test.YtdlpoemjgeehgaaPG18x6
import Derived.Test.YtdlpoemjgeehgaaPG18x7
import Derived.Test.YtdlpoemjgeehgaaPG18x8
import Derived.Test.YtdlpoemjgeehgaaPG18x9
import Derived.Test.YtdlpoemjgeehgaaPG18x10
import Derived.Test.YtdlpoemjgeehgaaPG18x11
import Derived.Test.YtdlpoemjgeehgaaPG18x12
import Derived.Test.YtdlpoemjgeehgaaPG18x13
import Derived.Test.YtdlpoemjgeehgaaPG18x14
import Derived.Test.YtdlpoemjgeehgaaPG18x15
import Derived.Test.YtdlpoemjgeehgaaPG18x16
import Derived.Test.YtdlpoemjgeehgaaPG18x17
import Derived.Test.YtdlpoemjgeehgaaPG18x18
import Derived.Test.YtdlpoemjgeehgaaPG18x19
import Derived.Test.YtdlpoemjgeehgaaPG18x20
import Derived.Test.YtdlpoemjgeehgaaPG18x21
import Derived.Test.YtdlpoemjgeehgaaPG18x22
import Derived.Test.YtdlpoemjgeehgaaPG18x23
import Derived.Test.YtdlpoemjgeehgaaPG18x24
import Derived.Test.YtdlpoemjgeehgaaPG18x25
import Derived.Test.YtdlpoemjgeehgaaHW
namespace Go.Proofs.Ytdlpoemjgeehgaa.PG18
open Go.RowKit Go.Proofs.YtdlpoemjgeehgaaW.PrintWords Go.Proofs.YtdlpoemjgeehgaaW.PrintLast Go.Proofs.YtdlpoemjgeehgaaW.PrintMore Go.Proofs.YtdlpoemjgeehgaaHW
attribute [local go_sem] max2_int min2_int max_two min_two max_three min_three max_four min_four
set_option linter.unusedVariables false
set_option linter.unusedSimpArgs false
/-! Plain facts on octet's texts. -/
theorem op_strs_append (xs ys : List Int) : strOfNums xs ++ strOfNums ys = strOfNums (xs ++ ys) := by
  refine ByteArray.ext ?_
  rw [ByteArray.data_append]
  simp [strOfNums]
def enc1 (s : ByteArray) : ByteArray := strOfNums [(s.size : Int)] ++ s
def enc : List ByteArray → ByteArray
  | [] => ⟨#[]⟩
  | x :: r => enc1 x ++ enc r
def small (l : List ByteArray) : Prop := ∀ x ∈ l, x.size ≤ 255
theorem op_nil_append (a : ByteArray) : (⟨#[]⟩ : ByteArray) ++ a = a := ByteArray.empty_append
theorem op_append_nil (a : ByteArray) : a ++ (⟨#[]⟩ : ByteArray) = a := ByteArray.append_empty
theorem enc1_size (s : ByteArray) : (enc1 s).size = s.size + 1 := by
  unfold enc1; rw [ByteArray.size_append, hw_strs]; simp; omega
theorem enc_append : ∀ (l m : List ByteArray), enc (l ++ m) = enc l ++ enc m
  | [], m => by rw [List.nil_append]; show _ = (⟨#[]⟩ : ByteArray) ++ _; rw [op_nil_append]
  | x :: r, m => by
    show enc1 x ++ enc (r ++ m) = enc1 x ++ enc r ++ enc m
    rw [enc_append r m, ByteArray.append_assoc]
theorem op_empty_of {s : ByteArray} (h : s.toList = ([] : List UInt8)) : s = ⟨#[]⟩ := by
  rw [ByteArray.toList_eq] at h
  exact ByteArray.ext (by simpa using h)
theorem op_size_of {s : ByteArray} : s.toList = ([] : List UInt8) ↔ s.size = 0 := by
  rw [ByteArray.toList_eq]
  constructor
  · intro h; have := congrArg List.length h; rw [Array.length_toList] at this; exact this
  · intro h; exact List.eq_nil_of_length_eq_zero (by rw [Array.length_toList]; exact h)
theorem text8_val (s : ByteArray) : octet_Text8.f s = if s.size ≤ 255 then some (enc1 s, 0) else some (⟨#[]⟩, 5) := by
  unfold octet_Text8.f enc1
  by_cases h : s.size ≤ 255
  · rw [if_neg (by omega), if_pos h]
    simp only [Option.bind_some]
    rw [if_pos (by rw [hw_strs]; simp only [List.length_cons, List.length_nil]; omega), show (s.size : Int) % 256 = s.size from by omega]
  · rw [if_pos (by omega), if_neg h]
/-- What Read8 tells: the first text and the rest, or an end. -/
theorem read8_val (s : ByteArray) (hs : s.size ≤ 9000000000000000000) : (∃ t rest, octet_Read8.f s = some (t, rest, 0) ∧ t.size ≤ 255 ∧ s = enc1 t ++ rest ∧ t = s.extract 1 (1 + (bt s 0).toNat) ∧ rest = s.extract (1 + (bt s 0).toNat) s.size ∧ 0 < s.size ∧ bt s 0 < s.size) ∨
    (octet_Read8.f s = some (⟨#[]⟩, ⟨#[]⟩, 6) ∧ (s.size = 0 ∨ (s.size : Int) ≤ bt s 0)) := by
  have b := bt_range s 0
  unfold octet_Read8.f
  by_cases c0 : s.toList = ([] : List UInt8)
  · rw [if_pos c0]; exact .inr ⟨rfl, .inl (op_size_of.1 c0)⟩
  have hp : 0 < s.size := by have := mt op_size_of.2 c0; omega
  have e1 : wrap64 (bt s 0) = bt s 0 := by unfold wrap64; omega
  have e2 : wrap64 (1 + bt s 0) = 1 + bt s 0 := by unfold wrap64; omega
  rw [if_neg c0, e1, e2, if_pos (by omega)]
  by_cases c1 : (s.size : Int) ≤ bt s 0
  · rw [if_pos c1]; exact .inr ⟨rfl, .inr c1⟩
  rw [if_neg c1, if_pos (by omega), if_pos (by omega), if_pos (by omega)]
  obtain ⟨n, hn⟩ : ∃ n : Nat, (n : Int) = bt s 0 := ⟨(bt s 0).toNat, by omega⟩
  rw [show (1 + bt s 0).toNat = 1 + n from by omega, show (bt s 0).toNat = n from by omega]
  have h1 : (s.extract 1 (1 + n)).size = n := by rw [ByteArray.size_extract]; omega
  have h2 : (s.extract (1 + n) s.size).size = s.size - (1 + n) := by rw [ByteArray.size_extract]; omega
  refine .inl ⟨_, _, rfl, by omega, ?_, rfl, rfl, hp, by omega⟩
  refine hw_ext _ _ (by rw [ByteArray.size_append, enc1_size, h1, h2]; omega) (fun i hi => ?_)
  unfold enc1
  rw [h1]
  by_cases i0 : i = 0
  · subst i0
    rw [hw_bt_l _ _ _ (by rw [ByteArray.size_append, hw_strs]; simp only [List.length_cons, List.length_nil, Int.toNat_natCast]; omega), hw_bt_l _ _ _ (by rw [hw_strs]; simp), hw_bt_n _ _ (by simp) (by simp) (by simp; omega)]
    simpa using hn.symm
  · by_cases i1 : i < 1 + n
    · rw [hw_bt_l _ _ _ (by rw [ByteArray.size_append, hw_strs, h1]; simp; omega), hw_bt_r _ _ _ (by rw [hw_strs]; simp; omega), hw_strs, hw_bt_x _ _ _ _ (by rw [h1]; simp; omega)]
      congr 1; simp; omega
    · rw [hw_bt_r _ _ _ (by rw [ByteArray.size_append, hw_strs, h1]; simp; omega), ByteArray.size_append, hw_strs, h1, hw_bt_x _ _ _ _ (by rw [h2]; simp; omega)]
      congr 1; simp; omega
/-- Of bytes that begin with a text's, Read8 gives that text, and the rest. -/
theorem read8_enc (t rest : ByteArray) (ht : t.size ≤ 255) (hs : (enc1 t ++ rest).size ≤ 9000000000000000000) : octet_Read8.f (enc1 t ++ rest) = some (t, rest, 0) := by
  have hb : bt (enc1 t ++ rest) 0 = t.size := by
    rw [hw_bt_l _ _ _ (by rw [enc1_size]; simp)]
    unfold enc1
    rw [hw_bt_l _ _ _ (by rw [hw_strs]; simp), hw_bt_n _ _ (by simp) (by simp) (by simp; omega)]
    simp
  have hz : (enc1 t ++ rest).size = t.size + 1 + rest.size := by rw [ByteArray.size_append, enc1_size]
  rcases read8_val _ hs with ⟨t', rest', h, ht', he, h1, h2, _, _⟩ | ⟨_, h | h⟩
  · rw [h]
    rw [hb] at h1 h2
    have e1 : t' = t := by
      rw [h1]
      refine hw_ext _ _ (by rw [ByteArray.size_extract, hz]; simp; omega) (fun i hi => ?_)
      rw [ByteArray.size_extract, hz] at hi
      simp only [Int.toNat_natCast] at hi ⊢
      rw [hw_bt_x _ _ _ _ (by rw [ByteArray.size_extract, hz]; simp; omega), hw_bt_l _ _ _ (by rw [enc1_size]; simp; omega)]
      unfold enc1
      rw [hw_bt_r _ _ _ (by rw [hw_strs]; simp; omega), hw_strs]
      congr 1; simp; omega
    have e2 : rest' = rest := by
      rw [h2]
      refine hw_ext _ _ (by rw [ByteArray.size_extract, hz]; simp; omega) (fun i hi => ?_)
      rw [ByteArray.size_extract, hz] at hi
      simp only [Int.toNat_natCast] at hi ⊢
      rw [hw_bt_x _ _ _ _ (by rw [ByteArray.size_extract, hz]; simp; omega), hw_bt_r _ _ _ (by rw [enc1_size]; simp; omega), enc1_size]
      congr 1; simp; omega
    rw [e1, e2]
  · omega
  · rw [hb] at h; omega
theorem op_ext_iff {a b : ByteArray} : a.toList = b.toList ↔ a = b := ⟨hw_toList_inj, fun h => by rw [h]⟩
theorem enc_size_le : ∀ l : List ByteArray, l.length ≤ (enc l).size
  | [] => Nat.zero_le _
  | x :: r => by
    have := enc_size_le r
    show (r.length + 1) ≤ (enc1 x ++ enc r).size
    rw [ByteArray.size_append, enc1_size]; omega
/-- Joining. -/
theorem join_val : ∀ (l : List ByteArray) (a : ByteArray), (small l → a.size + (enc l).size ≤ 1000000000000 → octet_Join8.acc a l = some (a ++ enc l, 0)) ∧ (¬ small l → (∀ x ∈ l, x.size ≤ 140737488351232) → a.size + 300 * l.length ≤ 1000000000000 → octet_Join8.acc a l = some (⟨#[]⟩, 5))
  | [], a => ⟨fun _ _ => by simp only [octet_Join8.acc]; show _ = some (a ++ ⟨#[]⟩, 0); rw [op_append_nil], fun h => absurd (fun x hx => by simp at hx) h⟩
  | x :: r, a => by
    obtain ⟨ih1, ih2⟩ := join_val r (a ++ enc1 x)
    refine ⟨fun hs hz => ?_, fun hs hb hz => ?_⟩
    · have hx := hs x (by simp)
      have hz' : a.size + (enc1 x ++ enc r).size ≤ 1000000000000 := hz
      rw [ByteArray.size_append, enc1_size] at hz'
      simp only [octet_Join8.acc, text8_val]
      rw [if_pos hx]
      simp only [Option.bind_some, if_true]
      rw [if_pos (by rw [enc1_size]; omega), ih1 (fun y hy => hs y (by simp [hy])) (by rw [ByteArray.size_append, enc1_size]; omega)]
      show _ = some (a ++ (enc1 x ++ enc r), 0)
      rw [ByteArray.append_assoc]
    · simp only [octet_Join8.acc, text8_val]
      simp only [List.length_cons] at hz
      by_cases hx : x.size ≤ 255
      · rw [if_pos hx]
        simp only [Option.bind_some, if_true]
        rw [if_pos (by rw [enc1_size]; omega), ih2 (fun h => hs (fun y hy => by
          rcases List.mem_cons.1 hy with rfl | hy
          · exact hx
          · exact h y hy)) (fun y hy => hb y (by simp [hy])) (by rw [ByteArray.size_append, enc1_size]; omega)]
      · rw [if_neg hx]
        simp
theorem pp_nil : (⟨#[]⟩ : ByteArray).toList = ([] : List UInt8) := op_size_of.2 rfl
theorem pp_small2 {n s : ByteArray} : small [n, s] ↔ n.size ≤ 255 ∧ s.size ≤ 255 := by unfold small; simp
theorem pp_small1 {n : ByteArray} : small [n] ↔ n.size ≤ 255 := by unfold small; simp
theorem pp_enc2 (n s : ByteArray) : enc [n, s] = enc1 n ++ enc1 s := by show enc1 n ++ (enc1 s ++ ⟨#[]⟩) = _; rw [op_append_nil]
theorem pp_enc1 (n : ByteArray) : enc [n] = enc1 n := op_append_nil _
theorem request_val (i : Int) (n s : ByteArray) (hn : n.size ≤ 140737488351232) (hs : s.size ≤ 140737488351232) : (n.size ≤ 255 ∧ s.size ≤ 255 ∧ pap_Request.f i n s = some (1, i, enc1 n ++ enc1 s, 0)) ∨ (¬ (n.size ≤ 255 ∧ s.size ≤ 255) ∧ pap_Request.f i n s = some (0, 0, ⟨#[]⟩, 5)) := by
  by_cases h : n.size ≤ 255 ∧ s.size ≤ 255
  · refine .inl ⟨h.1, h.2, ?_⟩
    unfold pap_Request.f pap_packet.f octet_Join8.f
    rw [(join_val [n, s] ⟨#[]⟩).1 (pp_small2.2 h) (by rw [pp_enc2, ByteArray.size_append, enc1_size, enc1_size]; show 0 + _ ≤ _; omega), op_nil_append, pp_enc2]
    rfl
  · refine .inr ⟨h, ?_⟩
    unfold pap_Request.f pap_packet.f octet_Join8.f
    rw [(join_val [n, s] ⟨#[]⟩).2 (fun g => h (pp_small2.1 g)) (by simp; exact ⟨hn, hs⟩) (by show 0 + 300 * 2 ≤ _; omega)]
    rfl
/-- What two texts tell. -/
theorem two_val (d : ByteArray) (hd : d.size ≤ 9000000000000000000) : (∃ n s, n.size ≤ 255 ∧ s.size ≤ 255 ∧ d = enc1 n ++ enc1 s ∧ octet_Read8.f d = some (n, enc1 s, 0) ∧ octet_Read8.f (enc1 s) = some (s, ⟨#[]⟩, 0) ∧ pap_texts.f d 2 = some ([n, s], 0))
    ∨ (octet_Read8.f d = some (⟨#[]⟩, ⟨#[]⟩, 6) ∧ pap_texts.f d 2 = some ([⟨#[]⟩, ⟨#[]⟩], 6))
    ∨ (∃ n r, d = enc1 n ++ r ∧ n.size ≤ 255 ∧ octet_Read8.f d = some (n, r, 0) ∧ octet_Read8.f r = some (⟨#[]⟩, ⟨#[]⟩, 6) ∧ pap_texts.f d 2 = some ([⟨#[]⟩, ⟨#[]⟩], 6))
    ∨ (∃ n s r, d = enc1 n ++ (enc1 s ++ r) ∧ n.size ≤ 255 ∧ s.size ≤ 255 ∧ r.toList ≠ [] ∧ octet_Read8.f d = some (n, enc1 s ++ r, 0) ∧ octet_Read8.f (enc1 s ++ r) = some (s, r, 0) ∧ pap_texts.f d 2 = some ([⟨#[]⟩, ⟨#[]⟩], 7)) := by
  unfold pap_texts.f
  rw [if_neg (by decide), if_pos rfl]
  rcases read8_val d hd with ⟨t, r, h, ht, he, -⟩ | ⟨h, -⟩
  · have hz : r.size ≤ 9000000000000000000 := by rw [he, ByteArray.size_append] at hd; omega
    rw [h]
    simp only [Option.bind_some, if_true]
    rcases read8_val r hz with ⟨u, q, g, hu, ge, -⟩ | ⟨g, -⟩
    · rw [g]
      simp only [Option.bind_some, if_true]
      by_cases c : q.toList = ([] : List UInt8)
      · rw [if_pos c]
        have := op_empty_of c
        subst this
        rw [op_append_nil] at ge
        subst ge
        exact .inl ⟨t, u, ht, hu, he, rfl, g, rfl⟩
      · rw [if_neg c]
        subst ge
        exact .inr (.inr (.inr ⟨t, u, q, he, ht, hu, c, rfl, g, rfl⟩))
    · rw [g]
      exact .inr (.inr (.inl ⟨t, r, he, ht, rfl, g, rfl⟩))
  · rw [h]
    exact .inr (.inl ⟨rfl, rfl⟩)
theorem asked_val (c i : Int) (d : ByteArray) (hd : d.size ≤ 9000000000000000000) : (∃ n s, n.size ≤ 255 ∧ s.size ≤ 255 ∧ c = 1 ∧ d = enc1 n ++ enc1 s ∧ pap_Asked.f c i d = some (n, s, 0)) ∨ (∃ e, e ≠ 0 ∧ pap_Asked.f c i d = some (⟨#[]⟩, ⟨#[]⟩, e)) := by
  unfold pap_Asked.f
  by_cases hc : c = 1
  · rw [if_pos hc]
    rcases two_val d hd with ⟨n, s, a, b, e, h1, h2, h3⟩ | ⟨h1, h3⟩ | ⟨n, r, _, _, h1, h2, h3⟩ | ⟨n, s, r, _, _, _, hr, h1, h2, h3⟩
    · rw [h3]; exact .inl ⟨n, s, a, b, hc, e, rfl⟩
    · rw [h3]; exact .inr ⟨6, by decide, rfl⟩
    · rw [h3]; exact .inr ⟨6, by decide, rfl⟩
    · rw [h3]; exact .inr ⟨7, by decide, rfl⟩
  · rw [if_neg hc]; exact .inr ⟨8, by decide, rfl⟩
theorem asked_enc (i : Int) (n s : ByteArray) (hn : n.size ≤ 255) (hs : s.size ≤ 255) : pap_Asked.f 1 i (enc1 n ++ enc1 s) = some (n, s, 0) := by
  have z1 := read8_enc n (enc1 s) hn (by rw [ByteArray.size_append, enc1_size, enc1_size]; omega)
  have z2 := read8_enc s ⟨#[]⟩ hs (by rw [op_append_nil, enc1_size]; omega)
  rw [op_append_nil] at z2
  unfold pap_Asked.f pap_texts.f
  rw [if_pos rfl, if_neg (by decide), if_pos rfl, z1]
  simp only [Option.bind_some, if_true]
  rw [z2]
  simp only [Option.bind_some, if_true]
  rw [if_pos pp_nil]
  rfl
theorem alive_true : halyardlaw18_alive.f = some true := by decide +kernel
theorem enc2_inj {n s m t : ByteArray} (hn : n.size ≤ 255) (hs : s.size ≤ 255) (hm : m.size ≤ 255) (ht : t.size ≤ 255) (h : enc1 n ++ enc1 s = enc1 m ++ enc1 t) : n = m ∧ s = t := by
  have h1 := asked_enc 0 n s hn hs
  rw [h, asked_enc 0 m t hm ht] at h1
  simp only [Option.some.injEq, Prod.mk.injEq] at h1
  exact ⟨h1.1.symm, h1.2.1.symm⟩
theorem extract_join (a : ByteArray) (c : Nat) (hc : c ≤ a.size) : a.extract 0 c ++ a.extract c a.size = a := by
  have h1 : (a.extract 0 c).size = c := by rw [ByteArray.size_extract]; omega
  have h2 : (a.extract c a.size).size = a.size - c := by rw [ByteArray.size_extract]; omega
  refine hw_ext _ _ (by rw [ByteArray.size_append, h1, h2]; omega) (fun i hi => ?_)
  rw [ByteArray.size_append, h1, h2] at hi
  by_cases h : i < c
  · rw [hw_bt_l _ _ _ (by rw [h1]; simpa using h), hw_bt_x _ _ _ _ (by rw [h1]; simpa using h)]
    congr 1; simp
  · rw [hw_bt_r _ _ _ (by rw [h1]; simp; omega), h1, hw_bt_x _ _ _ _ (by rw [h2]; omega)]
    congr 1; omega
theorem asked_cut (n s : ByteArray) (hn : n.size ≤ 255) (hs : s.size ≤ 255) (c : Nat) (hc : c < (enc1 n ++ enc1 s).size) : pap_Asked.f 1 1 ((enc1 n ++ enc1 s).extract 0 c) = some (⟨#[]⟩, ⟨#[]⟩, 6) := by
  have hj := extract_join (enc1 n ++ enc1 s) c (by omega)
  have hz : (enc1 n ++ enc1 s).size = n.size + 1 + (s.size + 1) := by rw [ByteArray.size_append, enc1_size, enc1_size]
  have hp : 0 < ((enc1 n ++ enc1 s).extract c (enc1 n ++ enc1 s).size).size := by rw [ByteArray.size_extract]; omega
  obtain ⟨d, hd⟩ : ∃ d, d = (enc1 n ++ enc1 s).extract 0 c := ⟨_, rfl⟩
  obtain ⟨q, hq⟩ : ∃ q, q = (enc1 n ++ enc1 s).extract c (enc1 n ++ enc1 s).size := ⟨_, rfl⟩
  rw [← hd, ← hq] at hj
  rw [← hq] at hp
  have hdz : d.size + q.size = n.size + 1 + (s.size + 1) := by rw [← hz, ← hj, ByteArray.size_append]
  rw [← hd]
  have z1 := read8_enc n (enc1 s) hn (by omega)
  have z2 := read8_enc s ⟨#[]⟩ hs (by rw [op_append_nil, enc1_size]; omega)
  rw [op_append_nil] at z2
  unfold pap_Asked.f
  rw [if_pos rfl]
  have key : ∀ r, pap_texts.f d 2 = some ([⟨#[]⟩, ⟨#[]⟩], 6) → r = ((pap_texts.f d 2).bind fun bt116 => (if 0 < (bt116.1.length : Int) then (if 1 < (bt116.1.length : Int) then (some (rdOf ByteArray.empty bt116.1 0, rdOf ByteArray.empty bt116.1 1, bt116.2)) else (none)) else (none))) → r = some (⟨#[]⟩, ⟨#[]⟩, 6) := by
    intro r h h'
    rw [h', h]
    rfl
  refine key _ ?_ rfl
  have step : ∀ t r, t.size ≤ 255 → d = enc1 t ++ r → t = n ∧ r ++ q = enc1 s := by
    intro t r ht hr
    have e : enc1 t ++ (r ++ q) = enc1 n ++ enc1 s := by rw [← ByteArray.append_assoc, ← hr, hj]
    have z3 := read8_enc t (r ++ q) ht (by rw [e]; omega)
    rw [e, z1] at z3
    simp only [Option.some.injEq, Prod.mk.injEq] at z3
    exact ⟨z3.1.symm, z3.2.1.symm⟩
  rcases two_val d (by omega) with ⟨t, u, ht, hu, he, _, _, _⟩ | ⟨_, h⟩ | ⟨_, _, _, _, _, _, h⟩ | ⟨t, u, r, he, ht, hu, hr, _, _, _⟩
  · exfalso
    obtain ⟨-, g⟩ := step t (enc1 u) ht he
    have z4 := read8_enc u q hu (by rw [g, enc1_size]; omega)
    rw [g, z2] at z4
    simp only [Option.some.injEq, Prod.mk.injEq] at z4
    rw [← z4.2.1] at hp
    exact absurd hp (by decide)
  · exact h
  · exact h
  · exfalso
    obtain ⟨-, g⟩ := step t (enc1 u ++ r) ht he
    have z4 := read8_enc u (r ++ q) hu (by rw [← ByteArray.append_assoc, g, enc1_size]; omega)
    rw [← ByteArray.append_assoc, g, z2] at z4
    simp only [Option.some.injEq, Prod.mk.injEq] at z4
    have := congrArg ByteArray.size z4.2.1
    rw [ByteArray.size_append] at this
    have e0 : (⟨#[]⟩ : ByteArray).size = 0 := rfl
    omega
theorem asked_more (n s : ByteArray) (hn : n.size ≤ 255) (hs : s.size ≤ 255) : pap_Asked.f 1 1 ((enc1 n ++ enc1 s) ++ (⟨#[0]⟩ : ByteArray)) = some (⟨#[]⟩, ⟨#[]⟩, 7) := by
  have e1 : (⟨#[0]⟩ : ByteArray).size = 1 := rfl
  have z1 := read8_enc n (enc1 s ++ ⟨#[0]⟩) hn (by rw [ByteArray.size_append, ByteArray.size_append, enc1_size, enc1_size]; omega)
  have z2 := read8_enc s ⟨#[0]⟩ hs (by rw [ByteArray.size_append, enc1_size]; omega)
  unfold pap_Asked.f pap_texts.f
  rw [if_pos rfl, if_neg (by decide), if_pos rfl, ByteArray.append_assoc, z1]
  simp only [Option.bind_some, if_true]
  rw [z2]
  simp only [Option.bind_some, if_true]
  rw [if_neg (fun h => absurd (op_size_of.1 h) (by decide))]
  rfl
theorem halyardlaw18_alive_true : halyardlaw18_alive.f = some true := by decide +kernel
set_option maxRecDepth 100000 in
set_option maxHeartbeats 1000000 in
theorem halyardlaw18_PapApart.same (a0 a1 a2 a3 : ByteArray) (a4 : Int) (w : World) (X Y : ByteArray) (j : Int)
    (c1' : (a0.size : Int) + (a1.size : Int) + (a2.size : Int) + (a3.size : Int) ≤ 4096) 
    (hw0 : wrap64 ((a0.size : Int) + (a1.size : Int)) = (a0.size : Int) + (a1.size : Int))
    (hw1 : wrap64 ((a0.size : Int) + (a1.size : Int) + (a2.size : Int)) = (a0.size : Int) + (a1.size : Int) + (a2.size : Int))
    (hw2 : wrap64 ((a0.size : Int) + (a1.size : Int) + (a2.size : Int) + (a3.size : Int)) = (a0.size : Int) + (a1.size : Int) + (a2.size : Int) + (a3.size : Int))
    (hw4 : wrap64 a4 = a4) (hj : a4.tmod (X.size : Int) = j) (hj0 : 0 ≤ j) (hj1 : j ≤ (X.size : Int)) 
    (hx0 : (X = ByteArray.empty) = False) (hx1 : (X.toList == ([] : List UInt8)) = false) (hx2 : (X.toList != ([] : List UInt8)) = true) (hx3 : ¬ 9223372036854775807 < X.size + 1)
    (b1 : (a0.toList == a1.toList) = true) (b2 : (a2.toList == a3.toList) = true) (hxy : (X.toList == Y.toList) = true)
    (HP : Aside0 (pap_Request.f 1 a0 a2 = some (1, 1, X, 0))) (HQ : Aside0 (pap_Request.f 1 a1 a3 = some (1, 1, Y, 0)))
    (HC : Aside0 (pap_Check.f 1 1 X a1 a3 = some true)) (HA1 : Aside0 (pap_Asked.f 1 1 (X.extract 0 j.toNat) = some (⟨#[]⟩, ⟨#[]⟩, 6))) (HA2 : Aside0 (pap_Asked.f 1 1 (X ++ (⟨#[0]⟩ : ByteArray)) = some (⟨#[]⟩, ⟨#[]⟩, 7)))
    (HK1 : Aside0 (pap_Check.f 1 1 (X.extract 0 j.toNat) a0 a2 = some false)) (HK2 : Aside0 (pap_Check.f 1 1 (X ++ (⟨#[0]⟩ : ByteArray)) a0 a2 = some false)) (HAL : Aside0 (halyardlaw18_alive.f = some true)) :
    Calls Try.prog 3 #[.string a0, .string a1, .string a2, .string a3, .int .u16 a4] w fun e w' => e = .returned (.bool true) ∧ Below w.heap.size w w' := by
  have huP := Try.underlying25
  have HB := Aside0.mk (Below.refl w.heap.size w)
  have tok1 : True := trivial
  have tok2 : True := trivial
  have tok3 : True := trivial
  have tok4 : True := trivial
  have tok5 : True := trivial
  have tok6 : True := trivial
  have tok7 : True := trivial
  have tok8 : True := trivial
  go_enter Try.func3, Try.ntmps3
  go_wp2_with (first | (go_at_call 17; have t_ := tok1; clear t_; (with_reducible refine (pap_Request.calls _ _ _ _ _ _ _ _ HP.out).mono ?_); rintro e w1 ⟨rfl, hb1⟩; replace HB := Aside0.mk (below_step (by repeat (first | (with_reducible first | exact HB.out | apply below_alloc | apply pw_below_drewN | apply below_drew1 | apply below_drew) | (refine Below.setCell ?_ (by simp; omega) _))) hb1); clear hb1; clear tok1) | (go_at_call 17; have t_ := tok2; clear t_; (with_reducible refine (pap_Request.calls _ _ _ _ _ _ _ _ HQ.out).mono ?_); rintro e w2 ⟨rfl, hb2⟩; have n_ := Aside0.mk (show w2.heap[w1.heap.size]? = some (.cells #[.int .u8 1, .int .u8 1, .string X] 25 (0, 0)) from hw_below (by repeat (first | exact BKa.out | exact blk_new _ _ | (refine hw_at ?_ _; simp; done) | refine blk_drewN ?_ _ | refine blk_drew ?_ | refine blk_alloc ?_ _)) hb2); have BKa := n_; clear n_; have ka0 := blk_cell BKa.out 0; have ka1 := blk_cell BKa.out 1; have ka2 := blk_cell BKa.out 2; (try simp only [List.getElem?_toArray, List.getElem?_cons_zero, List.getElem?_cons_succ] at ka0 ka1 ka2); have za := blk_lt BKa.out; replace HB := Aside0.mk (below_step (by repeat (first | (with_reducible first | exact HB.out | apply below_alloc | apply pw_below_drewN | apply below_drew1 | apply below_drew) | (refine Below.setCell ?_ (by simp; omega) _))) hb2); clear hb2; clear tok2) | (go_at_call 18; have t_ := tok3; clear t_; (with_reducible refine (pap_Check.calls _ _ _ _ _ _ _ HC.out).mono ?_); rintro e w3 ⟨rfl, hb3⟩; have n_ := Aside0.mk (show w3.heap[w1.heap.size]? = some (.cells #[.int .u8 1, .int .u8 1, .string X] 25 (0, 0)) from hw_below (by repeat (first | exact BKa.out | exact blk_new _ _ | (refine hw_at ?_ _; simp; done) | refine blk_drewN ?_ _ | refine blk_drew ?_ | refine blk_alloc ?_ _)) hb3); clear BKa; have BKa := n_; clear n_; clear ka0; have ka0 := blk_cell BKa.out 0; clear ka1; have ka1 := blk_cell BKa.out 1; clear ka2; have ka2 := blk_cell BKa.out 2; (try simp only [List.getElem?_toArray, List.getElem?_cons_zero, List.getElem?_cons_succ] at ka0 ka1 ka2); clear za; have za := blk_lt BKa.out; replace HB := Aside0.mk (below_step (by repeat (first | (with_reducible first | exact HB.out | apply below_alloc | apply pw_below_drewN | apply below_drew1 | apply below_drew) | (refine Below.setCell ?_ (by simp; omega) _))) hb3); clear hb3; clear tok3))
  go_region
  go_wp2_with (first | (go_at_call 19; have t_ := tok4; clear t_; (with_reducible refine (pap_Asked.calls _ _ _ _ _ _ _ HA1.out).mono ?_); rintro e w4 ⟨rfl, hb4⟩; have n_ := Aside0.mk (show w4.heap[w1.heap.size]? = some (.cells #[.int .u8 1, .int .u8 1, .string X] 25 (0, 0)) from hw_below (by repeat (first | exact BKa.out | exact blk_new _ _ | (refine hw_at ?_ _; simp; done) | refine blk_drewN ?_ _ | refine blk_drew ?_ | refine blk_alloc ?_ _)) hb4); clear BKa; have BKa := n_; clear n_; clear ka0; have ka0 := blk_cell BKa.out 0; clear ka1; have ka1 := blk_cell BKa.out 1; clear ka2; have ka2 := blk_cell BKa.out 2; (try simp only [List.getElem?_toArray, List.getElem?_cons_zero, List.getElem?_cons_succ] at ka0 ka1 ka2); clear za; have za := blk_lt BKa.out; have n_ := Aside0.mk (show w4.heap[w3.heap.size]? = some (.cells #[.int .u8 1, .int .u8 1, .string (X.extract 0 j.toNat)] 25 (0, 0)) from hw_below (by repeat (first | exact BKc.out | exact blk_new _ _ | (refine hw_at ?_ _; simp; done) | refine blk_drewN ?_ _ | refine blk_drew ?_ | refine blk_alloc ?_ _)) hb4); have BKc := n_; clear n_; have kc0 := blk_cell BKc.out 0; have kc1 := blk_cell BKc.out 1; have kc2 := blk_cell BKc.out 2; (try simp only [List.getElem?_toArray, List.getElem?_cons_zero, List.getElem?_cons_succ] at kc0 kc1 kc2); have zc := blk_lt BKc.out; replace HB := Aside0.mk (below_step (by repeat (first | (with_reducible first | exact HB.out | apply below_alloc | apply pw_below_drewN | apply below_drew1 | apply below_drew) | (refine Below.setCell ?_ (by simp; omega) _))) hb4); clear hb4; clear tok4) | (go_at_call 19; have t_ := tok5; clear t_; (with_reducible refine (pap_Asked.calls _ _ _ _ _ _ _ HA2.out).mono ?_); rintro e w5 ⟨rfl, hb5⟩; have n_ := Aside0.mk (show w5.heap[w3.heap.size]? = some (.cells #[.int .u8 1, .int .u8 1, .string (X.extract 0 j.toNat)] 25 (0, 0)) from hw_below (by repeat (first | exact BKc.out | exact blk_new _ _ | (refine hw_at ?_ _; simp; done) | refine blk_drewN ?_ _ | refine blk_drew ?_ | refine blk_alloc ?_ _)) hb5); clear BKc; have BKc := n_; clear n_; clear kc0; have kc0 := blk_cell BKc.out 0; clear kc1; have kc1 := blk_cell BKc.out 1; clear kc2; have kc2 := blk_cell BKc.out 2; (try simp only [List.getElem?_toArray, List.getElem?_cons_zero, List.getElem?_cons_succ] at kc0 kc1 kc2); clear zc; have zc := blk_lt BKc.out; have n_ := Aside0.mk (show w5.heap[w4.heap.size]? = some (.cells #[.int .u8 1, .int .u8 1, .string (X ++ (⟨#[0]⟩ : ByteArray))] 25 (0, 0)) from hw_below (by repeat (first | exact BKd.out | exact blk_new _ _ | (refine hw_at ?_ _; simp; done) | refine blk_drewN ?_ _ | refine blk_drew ?_ | refine blk_alloc ?_ _)) hb5); have BKd := n_; clear n_; have kd0 := blk_cell BKd.out 0; have kd1 := blk_cell BKd.out 1; have kd2 := blk_cell BKd.out 2; (try simp only [List.getElem?_toArray, List.getElem?_cons_zero, List.getElem?_cons_succ] at kd0 kd1 kd2); have zd := blk_lt BKd.out; replace HB := Aside0.mk (below_step (by repeat (first | (with_reducible first | exact HB.out | apply below_alloc | apply pw_below_drewN | apply below_drew1 | apply below_drew) | (refine Below.setCell ?_ (by simp; omega) _))) hb5); clear hb5; clear tok5) | (go_at_call 18; have t_ := tok6; clear t_; (with_reducible refine (pap_Check.calls _ _ _ _ _ _ _ HK1.out).mono ?_); rintro e w6 ⟨rfl, hb6⟩; have n_ := Aside0.mk (show w6.heap[w4.heap.size]? = some (.cells #[.int .u8 1, .int .u8 1, .string (X ++ (⟨#[0]⟩ : ByteArray))] 25 (0, 0)) from hw_below (by repeat (first | exact BKd.out | exact blk_new _ _ | (refine hw_at ?_ _; simp; done) | refine blk_drewN ?_ _ | refine blk_drew ?_ | refine blk_alloc ?_ _)) hb6); clear BKd; have BKd := n_; clear n_; clear kd0; have kd0 := blk_cell BKd.out 0; clear kd1; have kd1 := blk_cell BKd.out 1; clear kd2; have kd2 := blk_cell BKd.out 2; (try simp only [List.getElem?_toArray, List.getElem?_cons_zero, List.getElem?_cons_succ] at kd0 kd1 kd2); clear zd; have zd := blk_lt BKd.out; replace HB := Aside0.mk (below_step (by repeat (first | (with_reducible first | exact HB.out | apply below_alloc | apply pw_below_drewN | apply below_drew1 | apply below_drew) | (refine Below.setCell ?_ (by simp; omega) _))) hb6); clear hb6; clear tok6) | (go_at_call 18; have t_ := tok7; clear t_; (with_reducible refine (pap_Check.calls _ _ _ _ _ _ _ HK2.out).mono ?_); rintro e w7 ⟨rfl, hb7⟩; replace HB := Aside0.mk (below_step (by repeat (first | (with_reducible first | exact HB.out | apply below_alloc | apply pw_below_drewN | apply below_drew1 | apply below_drew) | (refine Below.setCell ?_ (by simp; omega) _))) hb7); clear hb7; clear tok7) | (go_at_call 16; have t_ := tok8; clear t_; (with_reducible refine (halyardlaw18_alive.calls _ _ HAL.out).mono ?_); rintro e w8 ⟨rfl, hb8⟩; replace HB := Aside0.mk (below_step (by repeat (first | (with_reducible first | exact HB.out | apply below_alloc | apply pw_below_drewN | apply below_drew1 | apply below_drew) | (refine Below.setCell ?_ (by simp; omega) _))) hb8); clear hb8; clear tok8))
  go_ret
  exact ⟨rfl, by repeat (first | (with_reducible first | exact HB.out | apply below_alloc | apply pw_below_drewN | apply below_drew1 | apply below_drew) | (refine Below.setCell ?_ (by simp; omega) _))⟩
set_option maxRecDepth 100000 in
set_option maxHeartbeats 1000000 in
theorem halyardlaw18_PapApart.one (a0 a1 a2 a3 : ByteArray) (a4 : Int) (w : World) (X Y : ByteArray) (j : Int)
    (c1' : (a0.size : Int) + (a1.size : Int) + (a2.size : Int) + (a3.size : Int) ≤ 4096) 
    (hw0 : wrap64 ((a0.size : Int) + (a1.size : Int)) = (a0.size : Int) + (a1.size : Int))
    (hw1 : wrap64 ((a0.size : Int) + (a1.size : Int) + (a2.size : Int)) = (a0.size : Int) + (a1.size : Int) + (a2.size : Int))
    (hw2 : wrap64 ((a0.size : Int) + (a1.size : Int) + (a2.size : Int) + (a3.size : Int)) = (a0.size : Int) + (a1.size : Int) + (a2.size : Int) + (a3.size : Int))
    (hw4 : wrap64 a4 = a4) (hj : a4.tmod (X.size : Int) = j) (hj0 : 0 ≤ j) (hj1 : j ≤ (X.size : Int)) 
    (hx0 : (X = ByteArray.empty) = False) (hx1 : (X.toList == ([] : List UInt8)) = false) (hx2 : (X.toList != ([] : List UInt8)) = true) (hx3 : ¬ 9223372036854775807 < X.size + 1)
    (b1 : (a0.toList == a1.toList) = true) (b2 : (a2.toList == a3.toList) = false) (hxy : (X.toList == Y.toList) = false)
    (HP : Aside0 (pap_Request.f 1 a0 a2 = some (1, 1, X, 0))) (HQ : Aside0 (pap_Request.f 1 a1 a3 = some (1, 1, Y, 0)))
    (HC : Aside0 (pap_Check.f 1 1 X a1 a3 = some false)) (HA1 : Aside0 (pap_Asked.f 1 1 (X.extract 0 j.toNat) = some (⟨#[]⟩, ⟨#[]⟩, 6))) (HA2 : Aside0 (pap_Asked.f 1 1 (X ++ (⟨#[0]⟩ : ByteArray)) = some (⟨#[]⟩, ⟨#[]⟩, 7)))
    (HK1 : Aside0 (pap_Check.f 1 1 (X.extract 0 j.toNat) a0 a2 = some false)) (HK2 : Aside0 (pap_Check.f 1 1 (X ++ (⟨#[0]⟩ : ByteArray)) a0 a2 = some false)) (HAL : Aside0 (halyardlaw18_alive.f = some true)) :
    Calls Try.prog 3 #[.string a0, .string a1, .string a2, .string a3, .int .u16 a4] w fun e w' => e = .returned (.bool true) ∧ Below w.heap.size w w' := by
  have huP := Try.underlying25
  have HB := Aside0.mk (Below.refl w.heap.size w)
  have tok1 : True := trivial
  have tok2 : True := trivial
  have tok3 : True := trivial
  have tok4 : True := trivial
  have tok5 : True := trivial
  have tok6 : True := trivial
  have tok7 : True := trivial
  have tok8 : True := trivial
  go_enter Try.func3, Try.ntmps3
  go_wp2_with (first | (go_at_call 17; have t_ := tok1; clear t_; (with_reducible refine (pap_Request.calls _ _ _ _ _ _ _ _ HP.out).mono ?_); rintro e w1 ⟨rfl, hb1⟩; replace HB := Aside0.mk (below_step (by repeat (first | (with_reducible first | exact HB.out | apply below_alloc | apply pw_below_drewN | apply below_drew1 | apply below_drew) | (refine Below.setCell ?_ (by simp; omega) _))) hb1); clear hb1; clear tok1) | (go_at_call 17; have t_ := tok2; clear t_; (with_reducible refine (pap_Request.calls _ _ _ _ _ _ _ _ HQ.out).mono ?_); rintro e w2 ⟨rfl, hb2⟩; have n_ := Aside0.mk (show w2.heap[w1.heap.size]? = some (.cells #[.int .u8 1, .int .u8 1, .string X] 25 (0, 0)) from hw_below (by repeat (first | exact BKa.out | exact blk_new _ _ | (refine hw_at ?_ _; simp; done) | refine blk_drewN ?_ _ | refine blk_drew ?_ | refine blk_alloc ?_ _)) hb2); have BKa := n_; clear n_; have ka0 := blk_cell BKa.out 0; have ka1 := blk_cell BKa.out 1; have ka2 := blk_cell BKa.out 2; (try simp only [List.getElem?_toArray, List.getElem?_cons_zero, List.getElem?_cons_succ] at ka0 ka1 ka2); have za := blk_lt BKa.out; replace HB := Aside0.mk (below_step (by repeat (first | (with_reducible first | exact HB.out | apply below_alloc | apply pw_below_drewN | apply below_drew1 | apply below_drew) | (refine Below.setCell ?_ (by simp; omega) _))) hb2); clear hb2; clear tok2) | (go_at_call 18; have t_ := tok3; clear t_; (with_reducible refine (pap_Check.calls _ _ _ _ _ _ _ HC.out).mono ?_); rintro e w3 ⟨rfl, hb3⟩; have n_ := Aside0.mk (show w3.heap[w1.heap.size]? = some (.cells #[.int .u8 1, .int .u8 1, .string X] 25 (0, 0)) from hw_below (by repeat (first | exact BKa.out | exact blk_new _ _ | (refine hw_at ?_ _; simp; done) | refine blk_drewN ?_ _ | refine blk_drew ?_ | refine blk_alloc ?_ _)) hb3); clear BKa; have BKa := n_; clear n_; clear ka0; have ka0 := blk_cell BKa.out 0; clear ka1; have ka1 := blk_cell BKa.out 1; clear ka2; have ka2 := blk_cell BKa.out 2; (try simp only [List.getElem?_toArray, List.getElem?_cons_zero, List.getElem?_cons_succ] at ka0 ka1 ka2); clear za; have za := blk_lt BKa.out; replace HB := Aside0.mk (below_step (by repeat (first | (with_reducible first | exact HB.out | apply below_alloc | apply pw_below_drewN | apply below_drew1 | apply below_drew) | (refine Below.setCell ?_ (by simp; omega) _))) hb3); clear hb3; clear tok3))
  go_region
  go_wp2_with (first | (go_at_call 19; have t_ := tok4; clear t_; (with_reducible refine (pap_Asked.calls _ _ _ _ _ _ _ HA1.out).mono ?_); rintro e w4 ⟨rfl, hb4⟩; have n_ := Aside0.mk (show w4.heap[w1.heap.size]? = some (.cells #[.int .u8 1, .int .u8 1, .string X] 25 (0, 0)) from hw_below (by repeat (first | exact BKa.out | exact blk_new _ _ | (refine hw_at ?_ _; simp; done) | refine blk_drewN ?_ _ | refine blk_drew ?_ | refine blk_alloc ?_ _)) hb4); clear BKa; have BKa := n_; clear n_; clear ka0; have ka0 := blk_cell BKa.out 0; clear ka1; have ka1 := blk_cell BKa.out 1; clear ka2; have ka2 := blk_cell BKa.out 2; (try simp only [List.getElem?_toArray, List.getElem?_cons_zero, List.getElem?_cons_succ] at ka0 ka1 ka2); clear za; have za := blk_lt BKa.out; have n_ := Aside0.mk (show w4.heap[w3.heap.size]? = some (.cells #[.int .u8 1, .int .u8 1, .string (X.extract 0 j.toNat)] 25 (0, 0)) from hw_below (by repeat (first | exact BKc.out | exact blk_new _ _ | (refine hw_at ?_ _; simp; done) | refine blk_drewN ?_ _ | refine blk_drew ?_ | refine blk_alloc ?_ _)) hb4); have BKc := n_; clear n_; have kc0 := blk_cell BKc.out 0; have kc1 := blk_cell BKc.out 1; have kc2 := blk_cell BKc.out 2; (try simp only [List.getElem?_toArray, List.getElem?_cons_zero, List.getElem?_cons_succ] at kc0 kc1 kc2); have zc := blk_lt BKc.out; replace HB := Aside0.mk (below_step (by repeat (first | (with_reducible first | exact HB.out | apply below_alloc | apply pw_below_drewN | apply below_drew1 | apply below_drew) | (refine Below.setCell ?_ (by simp; omega) _))) hb4); clear hb4; clear tok4) | (go_at_call 19; have t_ := tok5; clear t_; (with_reducible refine (pap_Asked.calls _ _ _ _ _ _ _ HA2.out).mono ?_); rintro e w5 ⟨rfl, hb5⟩; have n_ := Aside0.mk (show w5.heap[w3.heap.size]? = some (.cells #[.int .u8 1, .int .u8 1, .string (X.extract 0 j.toNat)] 25 (0, 0)) from hw_below (by repeat (first | exact BKc.out | exact blk_new _ _ | (refine hw_at ?_ _; simp; done) | refine blk_drewN ?_ _ | refine blk_drew ?_ | refine blk_alloc ?_ _)) hb5); clear BKc; have BKc := n_; clear n_; clear kc0; have kc0 := blk_cell BKc.out 0; clear kc1; have kc1 := blk_cell BKc.out 1; clear kc2; have kc2 := blk_cell BKc.out 2; (try simp only [List.getElem?_toArray, List.getElem?_cons_zero, List.getElem?_cons_succ] at kc0 kc1 kc2); clear zc; have zc := blk_lt BKc.out; have n_ := Aside0.mk (show w5.heap[w4.heap.size]? = some (.cells #[.int .u8 1, .int .u8 1, .string (X ++ (⟨#[0]⟩ : ByteArray))] 25 (0, 0)) from hw_below (by repeat (first | exact BKd.out | exact blk_new _ _ | (refine hw_at ?_ _; simp; done) | refine blk_drewN ?_ _ | refine blk_drew ?_ | refine blk_alloc ?_ _)) hb5); have BKd := n_; clear n_; have kd0 := blk_cell BKd.out 0; have kd1 := blk_cell BKd.out 1; have kd2 := blk_cell BKd.out 2; (try simp only [List.getElem?_toArray, List.getElem?_cons_zero, List.getElem?_cons_succ] at kd0 kd1 kd2); have zd := blk_lt BKd.out; replace HB := Aside0.mk (below_step (by repeat (first | (with_reducible first | exact HB.out | apply below_alloc | apply pw_below_drewN | apply below_drew1 | apply below_drew) | (refine Below.setCell ?_ (by simp; omega) _))) hb5); clear hb5; clear tok5) | (go_at_call 18; have t_ := tok6; clear t_; (with_reducible refine (pap_Check.calls _ _ _ _ _ _ _ HK1.out).mono ?_); rintro e w6 ⟨rfl, hb6⟩; have n_ := Aside0.mk (show w6.heap[w4.heap.size]? = some (.cells #[.int .u8 1, .int .u8 1, .string (X ++ (⟨#[0]⟩ : ByteArray))] 25 (0, 0)) from hw_below (by repeat (first | exact BKd.out | exact blk_new _ _ | (refine hw_at ?_ _; simp; done) | refine blk_drewN ?_ _ | refine blk_drew ?_ | refine blk_alloc ?_ _)) hb6); clear BKd; have BKd := n_; clear n_; clear kd0; have kd0 := blk_cell BKd.out 0; clear kd1; have kd1 := blk_cell BKd.out 1; clear kd2; have kd2 := blk_cell BKd.out 2; (try simp only [List.getElem?_toArray, List.getElem?_cons_zero, List.getElem?_cons_succ] at kd0 kd1 kd2); clear zd; have zd := blk_lt BKd.out; replace HB := Aside0.mk (below_step (by repeat (first | (with_reducible first | exact HB.out | apply below_alloc | apply pw_below_drewN | apply below_drew1 | apply below_drew) | (refine Below.setCell ?_ (by simp; omega) _))) hb6); clear hb6; clear tok6) | (go_at_call 18; have t_ := tok7; clear t_; (with_reducible refine (pap_Check.calls _ _ _ _ _ _ _ HK2.out).mono ?_); rintro e w7 ⟨rfl, hb7⟩; replace HB := Aside0.mk (below_step (by repeat (first | (with_reducible first | exact HB.out | apply below_alloc | apply pw_below_drewN | apply below_drew1 | apply below_drew) | (refine Below.setCell ?_ (by simp; omega) _))) hb7); clear hb7; clear tok7) | (go_at_call 16; have t_ := tok8; clear t_; (with_reducible refine (halyardlaw18_alive.calls _ _ HAL.out).mono ?_); rintro e w8 ⟨rfl, hb8⟩; replace HB := Aside0.mk (below_step (by repeat (first | (with_reducible first | exact HB.out | apply below_alloc | apply pw_below_drewN | apply below_drew1 | apply below_drew) | (refine Below.setCell ?_ (by simp; omega) _))) hb8); clear hb8; clear tok8))
  go_ret
  exact ⟨rfl, by repeat (first | (with_reducible first | exact HB.out | apply below_alloc | apply pw_below_drewN | apply below_drew1 | apply below_drew) | (refine Below.setCell ?_ (by simp; omega) _))⟩
set_option maxRecDepth 100000 in
set_option maxHeartbeats 1000000 in
theorem halyardlaw18_PapApart.two (a0 a1 a2 a3 : ByteArray) (a4 : Int) (w : World) (X Y : ByteArray) (j : Int)
    (c1' : (a0.size : Int) + (a1.size : Int) + (a2.size : Int) + (a3.size : Int) ≤ 4096) 
    (hw0 : wrap64 ((a0.size : Int) + (a1.size : Int)) = (a0.size : Int) + (a1.size : Int))
    (hw1 : wrap64 ((a0.size : Int) + (a1.size : Int) + (a2.size : Int)) = (a0.size : Int) + (a1.size : Int) + (a2.size : Int))
    (hw2 : wrap64 ((a0.size : Int) + (a1.size : Int) + (a2.size : Int) + (a3.size : Int)) = (a0.size : Int) + (a1.size : Int) + (a2.size : Int) + (a3.size : Int))
    (hw4 : wrap64 a4 = a4) (hj : a4.tmod (X.size : Int) = j) (hj0 : 0 ≤ j) (hj1 : j ≤ (X.size : Int)) 
    (hx0 : (X = ByteArray.empty) = False) (hx1 : (X.toList == ([] : List UInt8)) = false) (hx2 : (X.toList != ([] : List UInt8)) = true) (hx3 : ¬ 9223372036854775807 < X.size + 1)
    (b1 : (a0.toList == a1.toList) = false) (hxy : (X.toList == Y.toList) = false)
    (HP : Aside0 (pap_Request.f 1 a0 a2 = some (1, 1, X, 0))) (HQ : Aside0 (pap_Request.f 1 a1 a3 = some (1, 1, Y, 0)))
    (HC : Aside0 (pap_Check.f 1 1 X a1 a3 = some false)) (HA1 : Aside0 (pap_Asked.f 1 1 (X.extract 0 j.toNat) = some (⟨#[]⟩, ⟨#[]⟩, 6))) (HA2 : Aside0 (pap_Asked.f 1 1 (X ++ (⟨#[0]⟩ : ByteArray)) = some (⟨#[]⟩, ⟨#[]⟩, 7)))
    (HK1 : Aside0 (pap_Check.f 1 1 (X.extract 0 j.toNat) a0 a2 = some false)) (HK2 : Aside0 (pap_Check.f 1 1 (X ++ (⟨#[0]⟩ : ByteArray)) a0 a2 = some false)) (HAL : Aside0 (halyardlaw18_alive.f = some true)) :
    Calls Try.prog 3 #[.string a0, .string a1, .string a2, .string a3, .int .u16 a4] w fun e w' => e = .returned (.bool true) ∧ Below w.heap.size w w' := by
  have huP := Try.underlying25
  have HB := Aside0.mk (Below.refl w.heap.size w)
  have tok1 : True := trivial
  have tok2 : True := trivial
  have tok3 : True := trivial
  have tok4 : True := trivial
  have tok5 : True := trivial
  have tok6 : True := trivial
  have tok7 : True := trivial
  have tok8 : True := trivial
  go_enter Try.func3, Try.ntmps3
  go_wp2_with (first | (go_at_call 17; have t_ := tok1; clear t_; (with_reducible refine (pap_Request.calls _ _ _ _ _ _ _ _ HP.out).mono ?_); rintro e w1 ⟨rfl, hb1⟩; replace HB := Aside0.mk (below_step (by repeat (first | (with_reducible first | exact HB.out | apply below_alloc | apply pw_below_drewN | apply below_drew1 | apply below_drew) | (refine Below.setCell ?_ (by simp; omega) _))) hb1); clear hb1; clear tok1) | (go_at_call 17; have t_ := tok2; clear t_; (with_reducible refine (pap_Request.calls _ _ _ _ _ _ _ _ HQ.out).mono ?_); rintro e w2 ⟨rfl, hb2⟩; have n_ := Aside0.mk (show w2.heap[w1.heap.size]? = some (.cells #[.int .u8 1, .int .u8 1, .string X] 25 (0, 0)) from hw_below (by repeat (first | exact BKa.out | exact blk_new _ _ | (refine hw_at ?_ _; simp; done) | refine blk_drewN ?_ _ | refine blk_drew ?_ | refine blk_alloc ?_ _)) hb2); have BKa := n_; clear n_; have ka0 := blk_cell BKa.out 0; have ka1 := blk_cell BKa.out 1; have ka2 := blk_cell BKa.out 2; (try simp only [List.getElem?_toArray, List.getElem?_cons_zero, List.getElem?_cons_succ] at ka0 ka1 ka2); have za := blk_lt BKa.out; replace HB := Aside0.mk (below_step (by repeat (first | (with_reducible first | exact HB.out | apply below_alloc | apply pw_below_drewN | apply below_drew1 | apply below_drew) | (refine Below.setCell ?_ (by simp; omega) _))) hb2); clear hb2; clear tok2) | (go_at_call 18; have t_ := tok3; clear t_; (with_reducible refine (pap_Check.calls _ _ _ _ _ _ _ HC.out).mono ?_); rintro e w3 ⟨rfl, hb3⟩; have n_ := Aside0.mk (show w3.heap[w1.heap.size]? = some (.cells #[.int .u8 1, .int .u8 1, .string X] 25 (0, 0)) from hw_below (by repeat (first | exact BKa.out | exact blk_new _ _ | (refine hw_at ?_ _; simp; done) | refine blk_drewN ?_ _ | refine blk_drew ?_ | refine blk_alloc ?_ _)) hb3); clear BKa; have BKa := n_; clear n_; clear ka0; have ka0 := blk_cell BKa.out 0; clear ka1; have ka1 := blk_cell BKa.out 1; clear ka2; have ka2 := blk_cell BKa.out 2; (try simp only [List.getElem?_toArray, List.getElem?_cons_zero, List.getElem?_cons_succ] at ka0 ka1 ka2); clear za; have za := blk_lt BKa.out; replace HB := Aside0.mk (below_step (by repeat (first | (with_reducible first | exact HB.out | apply below_alloc | apply pw_below_drewN | apply below_drew1 | apply below_drew) | (refine Below.setCell ?_ (by simp; omega) _))) hb3); clear hb3; clear tok3))
  go_region
  go_wp2_with (first | (go_at_call 19; have t_ := tok4; clear t_; (with_reducible refine (pap_Asked.calls _ _ _ _ _ _ _ HA1.out).mono ?_); rintro e w4 ⟨rfl, hb4⟩; have n_ := Aside0.mk (show w4.heap[w1.heap.size]? = some (.cells #[.int .u8 1, .int .u8 1, .string X] 25 (0, 0)) from hw_below (by repeat (first | exact BKa.out | exact blk_new _ _ | (refine hw_at ?_ _; simp; done) | refine blk_drewN ?_ _ | refine blk_drew ?_ | refine blk_alloc ?_ _)) hb4); clear BKa; have BKa := n_; clear n_; clear ka0; have ka0 := blk_cell BKa.out 0; clear ka1; have ka1 := blk_cell BKa.out 1; clear ka2; have ka2 := blk_cell BKa.out 2; (try simp only [List.getElem?_toArray, List.getElem?_cons_zero, List.getElem?_cons_succ] at ka0 ka1 ka2); clear za; have za := blk_lt BKa.out; have n_ := Aside0.mk (show w4.heap[w3.heap.size]? = some (.cells #[.int .u8 1, .int .u8 1, .string (X.extract 0 j.toNat)] 25 (0, 0)) from hw_below (by repeat (first | exact BKc.out | exact blk_new _ _ | (refine hw_at ?_ _; simp; done) | refine blk_drewN ?_ _ | refine blk_drew ?_ | refine blk_alloc ?_ _)) hb4); have BKc := n_; clear n_; have kc0 := blk_cell BKc.out 0; have kc1 := blk_cell BKc.out 1; have kc2 := blk_cell BKc.out 2; (try simp only [List.getElem?_toArray, List.getElem?_cons_zero, List.getElem?_cons_succ] at kc0 kc1 kc2); have zc := blk_lt BKc.out; replace HB := Aside0.mk (below_step (by repeat (first | (with_reducible first | exact HB.out | apply below_alloc | apply pw_below_drewN | apply below_drew1 | apply below_drew) | (refine Below.setCell ?_ (by simp; omega) _))) hb4); clear hb4; clear tok4) | (go_at_call 19; have t_ := tok5; clear t_; (with_reducible refine (pap_Asked.calls _ _ _ _ _ _ _ HA2.out).mono ?_); rintro e w5 ⟨rfl, hb5⟩; have n_ := Aside0.mk (show w5.heap[w3.heap.size]? = some (.cells #[.int .u8 1, .int .u8 1, .string (X.extract 0 j.toNat)] 25 (0, 0)) from hw_below (by repeat (first | exact BKc.out | exact blk_new _ _ | (refine hw_at ?_ _; simp; done) | refine blk_drewN ?_ _ | refine blk_drew ?_ | refine blk_alloc ?_ _)) hb5); clear BKc; have BKc := n_; clear n_; clear kc0; have kc0 := blk_cell BKc.out 0; clear kc1; have kc1 := blk_cell BKc.out 1; clear kc2; have kc2 := blk_cell BKc.out 2; (try simp only [List.getElem?_toArray, List.getElem?_cons_zero, List.getElem?_cons_succ] at kc0 kc1 kc2); clear zc; have zc := blk_lt BKc.out; have n_ := Aside0.mk (show w5.heap[w4.heap.size]? = some (.cells #[.int .u8 1, .int .u8 1, .string (X ++ (⟨#[0]⟩ : ByteArray))] 25 (0, 0)) from hw_below (by repeat (first | exact BKd.out | exact blk_new _ _ | (refine hw_at ?_ _; simp; done) | refine blk_drewN ?_ _ | refine blk_drew ?_ | refine blk_alloc ?_ _)) hb5); have BKd := n_; clear n_; have kd0 := blk_cell BKd.out 0; have kd1 := blk_cell BKd.out 1; have kd2 := blk_cell BKd.out 2; (try simp only [List.getElem?_toArray, List.getElem?_cons_zero, List.getElem?_cons_succ] at kd0 kd1 kd2); have zd := blk_lt BKd.out; replace HB := Aside0.mk (below_step (by repeat (first | (with_reducible first | exact HB.out | apply below_alloc | apply pw_below_drewN | apply below_drew1 | apply below_drew) | (refine Below.setCell ?_ (by simp; omega) _))) hb5); clear hb5; clear tok5) | (go_at_call 18; have t_ := tok6; clear t_; (with_reducible refine (pap_Check.calls _ _ _ _ _ _ _ HK1.out).mono ?_); rintro e w6 ⟨rfl, hb6⟩; have n_ := Aside0.mk (show w6.heap[w4.heap.size]? = some (.cells #[.int .u8 1, .int .u8 1, .string (X ++ (⟨#[0]⟩ : ByteArray))] 25 (0, 0)) from hw_below (by repeat (first | exact BKd.out | exact blk_new _ _ | (refine hw_at ?_ _; simp; done) | refine blk_drewN ?_ _ | refine blk_drew ?_ | refine blk_alloc ?_ _)) hb6); clear BKd; have BKd := n_; clear n_; clear kd0; have kd0 := blk_cell BKd.out 0; clear kd1; have kd1 := blk_cell BKd.out 1; clear kd2; have kd2 := blk_cell BKd.out 2; (try simp only [List.getElem?_toArray, List.getElem?_cons_zero, List.getElem?_cons_succ] at kd0 kd1 kd2); clear zd; have zd := blk_lt BKd.out; replace HB := Aside0.mk (below_step (by repeat (first | (with_reducible first | exact HB.out | apply below_alloc | apply pw_below_drewN | apply below_drew1 | apply below_drew) | (refine Below.setCell ?_ (by simp; omega) _))) hb6); clear hb6; clear tok6) | (go_at_call 18; have t_ := tok7; clear t_; (with_reducible refine (pap_Check.calls _ _ _ _ _ _ _ HK2.out).mono ?_); rintro e w7 ⟨rfl, hb7⟩; replace HB := Aside0.mk (below_step (by repeat (first | (with_reducible first | exact HB.out | apply below_alloc | apply pw_below_drewN | apply below_drew1 | apply below_drew) | (refine Below.setCell ?_ (by simp; omega) _))) hb7); clear hb7; clear tok7) | (go_at_call 16; have t_ := tok8; clear t_; (with_reducible refine (halyardlaw18_alive.calls _ _ HAL.out).mono ?_); rintro e w8 ⟨rfl, hb8⟩; replace HB := Aside0.mk (below_step (by repeat (first | (with_reducible first | exact HB.out | apply below_alloc | apply pw_below_drewN | apply below_drew1 | apply below_drew) | (refine Below.setCell ?_ (by simp; omega) _))) hb8); clear hb8; clear tok8))
  go_ret
  exact ⟨rfl, by repeat (first | (with_reducible first | exact HB.out | apply below_alloc | apply pw_below_drewN | apply below_drew1 | apply below_drew) | (refine Below.setCell ?_ (by simp; omega) _))⟩
set_option maxRecDepth 100000 in
set_option maxHeartbeats 1000000 in
theorem halyardlaw18_PapApart.run (a0 a1 a2 a3 : ByteArray) (a4 : Int) (w : World) (_z0 : a0.size ≤ 140737488351232) (_z1 : a1.size ≤ 140737488351232) (_z2 : a2.size ≤ 140737488351232) (_z3 : a3.size ≤ 140737488351232) (_l4 : 0 ≤ a4) (_u4 : a4 ≤ 65535) :
    Calls Try.prog 3 #[.string a0, .string a1, .string a2, .string a3, .int .u16 a4] w fun e w' => e = .returned (.bool true) ∧ Below w.heap.size w w' := by
  have huP := Try.underlying25
  have HB := Aside0.mk (Below.refl w.heap.size w)
  have HAL := Aside0.mk halyardlaw18_alive_true
  have hw0 : wrap64 ((a0.size : Int) + (a1.size : Int)) = (a0.size : Int) + (a1.size : Int) := by unfold wrap64; omega
  have hw1 : wrap64 ((a0.size : Int) + (a1.size : Int) + (a2.size : Int)) = (a0.size : Int) + (a1.size : Int) + (a2.size : Int) := by unfold wrap64; omega
  have hw2 : wrap64 ((a0.size : Int) + (a1.size : Int) + (a2.size : Int) + (a3.size : Int)) = (a0.size : Int) + (a1.size : Int) + (a2.size : Int) + (a3.size : Int) := by unfold wrap64; omega
  have hw4 : wrap64 a4 = a4 := by unfold wrap64; omega
  by_cases c1 : 4096 < (a0.size : Int) + (a1.size : Int) + (a2.size : Int) + (a3.size : Int)
  · clear _z0 _z1 _z2 _z3
    go_enter Try.func3, Try.ntmps3
    go_wp2_with (first | (go_at_call 16; (with_reducible refine (halyardlaw18_alive.calls _ _ HAL.out).mono ?_); rintro e w1 ⟨rfl, hb1⟩; replace HB := Aside0.mk (below_step (by repeat (first | (with_reducible first | exact HB.out | apply below_alloc | apply pw_below_drewN | apply below_drew1 | apply below_drew) | (refine Below.setCell ?_ (by simp; omega) _))) hb1); clear hb1))
    go_ret
    exact ⟨rfl, by repeat (first | (with_reducible first | exact HB.out | apply below_alloc | apply pw_below_drewN | apply below_drew1 | apply below_drew) | (refine Below.setCell ?_ (by simp; omega) _))⟩
  have c1' : (a0.size : Int) + (a1.size : Int) + (a2.size : Int) + (a3.size : Int) ≤ 4096 := by omega
  clear c1
  rcases request_val 1 a0 a2 _z0 _z2 with ⟨hn, hs, hp⟩ | ⟨-, hp⟩
  rotate_left
  · obtain ⟨x0, x1, x2, x3, hq⟩ : ∃ x0 x1 x2 x3, pap_Request.f 1 a1 a3 = some (x0, x1, x2, x3) := by
      rcases request_val 1 a1 a3 _z1 _z3 with ⟨_, _, h⟩ | ⟨_, h⟩
      · exact ⟨_, _, _, _, h⟩
      · exact ⟨_, _, _, _, h⟩
    have HP := Aside0.mk hp
    have HQ := Aside0.mk hq
    clear hp hq _z0 _z1 _z2 _z3
    have tok1 : True := trivial
    have tok2 : True := trivial
    have tok3 : True := trivial
    go_enter Try.func3, Try.ntmps3
    go_wp2_with (first | (go_at_call 17; have t_ := tok1; clear t_; (with_reducible refine (pap_Request.calls _ _ _ _ _ _ _ _ HP.out).mono ?_); rintro e w1 ⟨rfl, hb1⟩; replace HB := Aside0.mk (below_step (by repeat (first | (with_reducible first | exact HB.out | apply below_alloc | apply pw_below_drewN | apply below_drew1 | apply below_drew) | (refine Below.setCell ?_ (by simp; omega) _))) hb1); clear hb1; clear tok1) | (go_at_call 17; have t_ := tok2; clear t_; (with_reducible refine (pap_Request.calls _ _ _ _ _ _ _ _ HQ.out).mono ?_); rintro e w2 ⟨rfl, hb2⟩; replace HB := Aside0.mk (below_step (by repeat (first | (with_reducible first | exact HB.out | apply below_alloc | apply pw_below_drewN | apply below_drew1 | apply below_drew) | (refine Below.setCell ?_ (by simp; omega) _))) hb2); clear hb2; clear tok2) | (go_at_call 16; have t_ := tok3; clear t_; (with_reducible refine (halyardlaw18_alive.calls _ _ HAL.out).mono ?_); rintro e w3 ⟨rfl, hb3⟩; replace HB := Aside0.mk (below_step (by repeat (first | (with_reducible first | exact HB.out | apply below_alloc | apply pw_below_drewN | apply below_drew1 | apply below_drew) | (refine Below.setCell ?_ (by simp; omega) _))) hb3); clear hb3; clear tok3))
    go_ret
    exact ⟨rfl, by repeat (first | (with_reducible first | exact HB.out | apply below_alloc | apply pw_below_drewN | apply below_drew1 | apply below_drew) | (refine Below.setCell ?_ (by simp; omega) _))⟩
  rcases request_val 1 a1 a3 _z1 _z3 with ⟨hm, ht, hq⟩ | ⟨-, hq⟩
  rotate_left
  · have HP := Aside0.mk hp
    have HQ := Aside0.mk hq
    clear hp hq _z0 _z1 _z2 _z3
    have tok1 : True := trivial
    have tok2 : True := trivial
    have tok3 : True := trivial
    go_enter Try.func3, Try.ntmps3
    go_wp2_with (first | (go_at_call 17; have t_ := tok1; clear t_; (with_reducible refine (pap_Request.calls _ _ _ _ _ _ _ _ HP.out).mono ?_); rintro e w1 ⟨rfl, hb1⟩; replace HB := Aside0.mk (below_step (by repeat (first | (with_reducible first | exact HB.out | apply below_alloc | apply pw_below_drewN | apply below_drew1 | apply below_drew) | (refine Below.setCell ?_ (by simp; omega) _))) hb1); clear hb1; clear tok1) | (go_at_call 17; have t_ := tok2; clear t_; (with_reducible refine (pap_Request.calls _ _ _ _ _ _ _ _ HQ.out).mono ?_); rintro e w2 ⟨rfl, hb2⟩; replace HB := Aside0.mk (below_step (by repeat (first | (with_reducible first | exact HB.out | apply below_alloc | apply pw_below_drewN | apply below_drew1 | apply below_drew) | (refine Below.setCell ?_ (by simp; omega) _))) hb2); clear hb2; clear tok2) | (go_at_call 16; have t_ := tok3; clear t_; (with_reducible refine (halyardlaw18_alive.calls _ _ HAL.out).mono ?_); rintro e w3 ⟨rfl, hb3⟩; replace HB := Aside0.mk (below_step (by repeat (first | (with_reducible first | exact HB.out | apply below_alloc | apply pw_below_drewN | apply below_drew1 | apply below_drew) | (refine Below.setCell ?_ (by simp; omega) _))) hb3); clear hb3; clear tok3))
    go_ret
    exact ⟨rfl, by repeat (first | (with_reducible first | exact HB.out | apply below_alloc | apply pw_below_drewN | apply below_drew1 | apply below_drew) | (refine Below.setCell ?_ (by simp; omega) _))⟩
  have hinj := @enc2_inj a0 a2 a1 a3 hn hs hm ht
  have hpos : 0 < (enc1 a0 ++ enc1 a2).size := by rw [ByteArray.size_append, enc1_size]; omega
  have hbig : (enc1 a0 ++ enc1 a2).size ≤ 5000 := by rw [ByteArray.size_append, enc1_size, enc1_size]; omega
  have ha1 := asked_cut a0 a2 hn hs (a4.tmod ((enc1 a0 ++ enc1 a2).size : Int)).toNat (by
    have := Int.tmod_lt_of_pos a4 (show (0 : Int) < ((enc1 a0 ++ enc1 a2).size : Int) by omega)
    omega)
  have ha2 := asked_more a0 a2 hn hs
  have hc := asked_enc 1 a0 a2 hn hs
  obtain ⟨X, hX⟩ : ∃ X, X = enc1 a0 ++ enc1 a2 := ⟨_, rfl⟩
  obtain ⟨Y, hY⟩ : ∃ Y, Y = enc1 a1 ++ enc1 a3 := ⟨_, rfl⟩
  rw [← hX] at ha1 ha2 hp hpos hbig hinj hc
  rw [← hY] at hq hinj
  have hj0 : 0 ≤ a4.tmod (X.size : Int) := Int.tmod_nonneg _ _l4
  have hj1 : a4.tmod (X.size : Int) ≤ (X.size : Int) := by
    have := Int.tmod_lt_of_pos a4 (show (0 : Int) < (X.size : Int) by omega)
    omega
  obtain ⟨j, hj⟩ : ∃ j, a4.tmod (X.size : Int) = j := ⟨_, rfl⟩
  rw [hj] at ha1 hj0 hj1
  have hk1 : pap_Check.f 1 1 (X.extract 0 j.toNat) a0 a2 = some false := by unfold pap_Check.f; rw [ha1]; rfl
  have hk2 : pap_Check.f 1 1 (X ++ (⟨#[0]⟩ : ByteArray)) a0 a2 = some false := by unfold pap_Check.f; rw [ha2]; rfl
  have hx0 : (X = ByteArray.empty) = False := eq_false (fun h => by rw [h] at hpos; exact absurd hpos (by decide))
  have hx1 : (X.toList == ([] : List UInt8)) = false := beq_eq_false_iff_ne.mpr (fun h => by have := op_size_of.1 h; omega)
  have hx2 : (X.toList != ([] : List UInt8)) = true := bne_iff_ne.mpr (fun h => by have := op_size_of.1 h; omega)
  have hx3 : ¬ 9223372036854775807 < X.size + 1 := by omega
  have HP := Aside0.mk hp
  have HQ := Aside0.mk hq
  have HA1 := Aside0.mk ha1
  have HA2 := Aside0.mk ha2
  have HK1 := Aside0.mk hk1
  have HK2 := Aside0.mk hk2
  clear hp hq ha1 ha2 hk1 hk2 hpos hbig
  by_cases hnm : a0.toList = a1.toList
  · have b1 : (a0.toList == a1.toList) = true := beq_iff_eq.mpr hnm
    by_cases hst : a2.toList = a3.toList
    · have b2 : (a2.toList == a3.toList) = true := beq_iff_eq.mpr hst
      have HC := Aside0.mk (show pap_Check.f 1 1 X a1 a3 = some true by unfold pap_Check.f; rw [hc]; simp [hnm, hst])
      have hxy : (X.toList == Y.toList) = true := beq_iff_eq.mpr (by rw [hX, hY, hw_toList_inj hnm, hw_toList_inj hst])
      exact halyardlaw18_PapApart.same a0 a1 a2 a3 a4 w X Y j c1' hw0 hw1 hw2 hw4 hj hj0 hj1 hx0 hx1 hx2 hx3 b1 b2 hxy HP HQ HC HA1 HA2 HK1 HK2 HAL
    · have b2 : (a2.toList == a3.toList) = false := beq_eq_false_iff_ne.mpr hst
      have HC := Aside0.mk (show pap_Check.f 1 1 X a1 a3 = some false by unfold pap_Check.f; rw [hc]; simp [hnm, hst])
      have hxy : (X.toList == Y.toList) = false := beq_eq_false_iff_ne.mpr (fun h => hst (by rw [(hinj (hw_toList_inj h)).2]))
      exact halyardlaw18_PapApart.one a0 a1 a2 a3 a4 w X Y j c1' hw0 hw1 hw2 hw4 hj hj0 hj1 hx0 hx1 hx2 hx3 b1 b2 hxy HP HQ HC HA1 HA2 HK1 HK2 HAL
  · have b1 : (a0.toList == a1.toList) = false := beq_eq_false_iff_ne.mpr hnm
    have HC := Aside0.mk (show pap_Check.f 1 1 X a1 a3 = some false by unfold pap_Check.f; rw [hc]; simp [hnm])
    have hxy : (X.toList == Y.toList) = false := beq_eq_false_iff_ne.mpr (fun h => hnm (by rw [(hinj (hw_toList_inj h)).1]))
    exact halyardlaw18_PapApart.two a0 a1 a2 a3 a4 w X Y j c1' hw0 hw1 hw2 hw4 hj hj0 hj1 hx0 hx1 hx2 hx3 b1 hxy HP HQ HC HA1 HA2 HK1 HK2 HAL

end Go.Proofs.Ytdlpoemjgeehgaa.PG18
