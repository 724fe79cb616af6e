/- The law halyard/halyardlaw06.FieldShort in plain Lean: what the call comes to is true, whatever the input; no condition. -/
import Derived.Test.YtdlpoemjgeehgaaPG06x
import Derived.Test.YtdlpoemjgeehgaaHW
namespace Go.Proofs.Ytdlpoemjgeehgaa.Pure
open Go.RowKit Go.Proofs.Ytdlpoemjgeehgaa.PG06 Go.Proofs.YtdlpoemjgeehgaaW.PrintWords Go.Proofs.YtdlpoemjgeehgaaW.PrintLast Go.Proofs.YtdlpoemjgeehgaaHW
/-! Plain facts on the address, control and protocol fields. -/
theorem fl_strs_append (xs ys : List Int) : strOfNums xs ++ strOfNums ys = strOfNums (xs ++ ys) := by
  refine ByteArray.ext ?_
  rw [ByteArray.data_append]
  simp [strOfNums]
theorem fl_nil_append (a : ByteArray) : (⟨#[]⟩ : ByteArray) ++ a = a := ByteArray.empty_append
theorem fl_append_nil (a : ByteArray) : a ++ (⟨#[]⟩ : ByteArray) = a := ByteArray.append_empty
theorem fl_nil {s : ByteArray} : s.toList = ([] : List UInt8) ↔ s.size = 0 := by
  rw [ByteArray.toList_eq]
  constructor
  · intro h; have := congrArg List.length h; rw [Array.length_toList] at this; exact this
  · intro h; exact List.eq_nil_of_length_eq_zero (by rw [Array.length_toList]; exact h)
theorem fl_and256 (a : Int) (h0 : 0 ≤ a) (h1 : a ≤ 65535) : Go.bits .and .u16 a 256 = (a / 256) % 2 * 256 := by
  obtain ⟨n, rfl⟩ := Int.eq_ofNat_of_zero_le h0
  have e1 : (BitVec.ofInt 16 (n : Int)).toNat = n := by
    rw [BitVec.ofInt_natCast, BitVec.toNat_ofNat]; exact Nat.mod_eq_of_lt (by omega)
  have e2 : (BitVec.ofInt 16 (256 : Int)).toNat = 256 := by decide
  have hx : n &&& 256 = (n / 256 % 2) * 256 := by
    have h8 : n.testBit 8 = decide (n / 256 % 2 = 1) := by rw [Nat.testBit_eq_decide_div_mod_eq]
    have hc : n / 256 % 2 = 0 ∨ n / 256 % 2 = 1 := by omega
    apply Nat.eq_of_testBit_eq
    intro i
    rw [Nat.testBit_and, show (256 : Nat) = 2 ^ 8 from rfl, Nat.testBit_two_pow]
    by_cases h : 8 = i
    · subst h
      rw [h8]
      rcases hc with h | h
      · rw [show (2 : Nat) ^ 8 = 256 from rfl, h]; simp
      · rw [show (2 : Nat) ^ 8 = 256 from rfl, h]; decide
    · rcases hc with h' | h'
      · rw [show (2 : Nat) ^ 8 = 256 from rfl, h']; simp [h]
      · rw [show (2 : Nat) ^ 8 = 256 from rfl, h', show 1 * 256 = 2 ^ 8 from rfl, Nat.testBit_two_pow]; simp [h]
  show IntKind.u16.wrap ((BitVec.ofInt 16 (n : Int) &&& BitVec.ofInt 16 256).toNat : Int) = _
  rw [BitVec.toNat_and, e1, e2, IntKind.wrap_u16, hx]
  omega
def mayb (p : Int) : Bool := decide (p % 2 = 1 ∧ (p / 256) % 2 = 0 ∧ p ≠ 255)
theorem may_val (p : Int) (h0 : 0 ≤ p) (h1 : p ≤ 65535) : field_May.f p = some (mayb p) := by
  unfold field_May.f mayb
  have e1 : Go.bits .and .u16 p 1 = p % 2 := Go.bits_mask .u16 16 (by decide) (fun n a b => by rw [IntKind.wrap_u16]; omega) 1 (by omega) _ (by omega) (by omega)
  rw [e1, fl_and256 p h0 h1]
  by_cases c1 : p % 2 = 1
  · rw [if_pos c1]
    by_cases c2 : p / 256 % 2 = 0
    · rw [if_pos (by omega)]
      by_cases c3 : p = 255
      · subst c3; decide
      · simp [c1, c2, c3]
    · rw [if_neg (by omega)]; simp [c2]
  · rw [if_neg c1]; simp [c1]
theorem may_ref (p : Int) (h0 : 0 ≤ p) (h1 : p ≤ 65535) : halyardref06_May.f p = some (mayb p) := by
  unfold halyardref06_May.f mayb
  have e1 : Int.tmod p 2 = p % 2 := by rw [Int.tmod_eq_emod_of_nonneg h0]
  have e2 : Int.tdiv p 256 = p / 256 := by rw [Int.tdiv_eq_ediv_of_nonneg h0]
  have e3 : IntKind.u16.wrap (p / 256) = p / 256 := by rw [IntKind.wrap_u16]; omega
  rw [e1, e2, e3, Int.tmod_eq_emod_of_nonneg (by omega)]
  by_cases c1 : p % 2 = 1
  · rw [if_pos c1]
    by_cases c2 : p / 256 % 2 = 0
    · rw [if_pos c2]
      by_cases c3 : p = 255
      · subst c3; decide
      · simp [c1, c2, c3]
    · rw [if_neg c2]; simp [c2]
  · rw [if_neg c1]; simp [c1]
/-- What is behind 255, 3. -/
def trim (t : ByteArray) : ByteArray := if 2 ≤ t.size ∧ bt t 0 = 255 ∧ bt t 1 = 3 then t.extract 2 t.size else t
theorem trim_val (t : ByteArray) : strings_TrimPrefix.f t ⟨#[255, 3]⟩ = some (trim t) := by
  have z : (⟨#[255, 3]⟩ : ByteArray).size = 2 := rfl
  unfold strings_TrimPrefix.f stringslite_TrimPrefix.f stringslite_HasPrefix.f trim
  rw [z]
  by_cases c : 2 ≤ t.size
  · rw [if_pos (by omega), if_pos (by omega), if_pos (by omega)]
    have e : ((t.extract 0 ((2 : Nat) : Int).toNat).toList == (⟨#[255, 3]⟩ : ByteArray).toList) = decide (bt t 0 = 255 ∧ bt t 1 = 3) := by
      have s0 : (t.extract 0 2).size = 2 := by rw [ByteArray.size_extract]; omega
      have b0 : bt (t.extract 0 2) 0 = bt t 0 := hw_bt_x t 0 2 0 (by rw [s0]; decide)
      have b1 : bt (t.extract 0 2) 1 = bt t 1 := hw_bt_x t 0 2 1 (by rw [s0]; decide)
      show ((t.extract 0 2).toList == (⟨#[255, 3]⟩ : ByteArray).toList) = _
      rw [Bool.eq_iff_iff, beq_iff_eq, decide_eq_true_iff]
      constructor
      · intro h
        have h' := hw_toList_inj h
        rw [h'] at b0 b1
        exact ⟨b0.symm.trans rfl, b1.symm.trans rfl⟩
      · rintro ⟨h1, h2⟩
        have : t.extract 0 2 = ⟨#[255, 3]⟩ := by
          refine hw_ext _ _ (by rw [s0]; rfl) fun i hi => ?_
          rw [s0] at hi
          match i, hi with
          | 0, _ => exact (b0.trans h1).trans rfl
          | 1, _ => exact (b1.trans h2).trans rfl
        rw [this]
    simp only [Option.bind_some]
    rw [e]
    by_cases d : bt t 0 = 255 ∧ bt t 1 = 3
    · rw [if_pos (by simpa using d), if_pos (by omega), if_pos (by omega), if_pos ⟨c, d⟩]; rfl
    · rw [if_neg (by simpa using d), if_neg (fun h => d h.2)]; rfl
  · rw [if_neg (by omega)]; simp only [Option.bind_some]; rw [if_neg (by simp), if_neg (fun h => c h.1)]; rfl
theorem get_val (t : ByteArray) : field_Get.f t = field_Get.g (trim t) := by unfold field_Get.f; rw [trim_val]; rfl
theorem bt_empty (i : Int) : bt ⟨#[]⟩ i = 0 := by unfold bt; rw [dif_neg (by show ¬ i.toNat < 0; omega)]
theorem fl_join (x y z : ByteArray) (hx : x.size ≤ 1000000000000) (hy : y.size ≤ 1000000000000) (hz : z.size ≤ 1000000000000) : strings_Join.f [x, y, z] ⟨#[]⟩ = some (x ++ y ++ z) := by
  show (if (⟨#[]⟩ : ByteArray).size = 0 ∧ x.size ≤ 1000000000000 ∧ y.size ≤ 1000000000000 ∧ z.size ≤ 1000000000000 then some (x ++ y ++ z) else none) = _
  rw [if_pos ⟨rfl, hx, hy, hz⟩]
/-- The header. -/
def hdr (p : Int) (a b : Bool) : List Int := (if a = true ∧ p ≠ 49185 then [] else [255, 3]) ++ (if b = true ∧ p < 256 then [p % 256] else [p / 256 % 256, p % 256])
theorem hdr_len (p : Int) (a b : Bool) : (hdr p a b).length ≤ 4 := by
  unfold hdr; rw [List.length_append]; split <;> split <;> simp
theorem put_val (p : Int) (h0 : 0 ≤ p) (h1 : p ≤ 65535) (s : ByteArray) (hs : s.size ≤ 1000000000000) (a b : Bool) :
    field_Put.f p s a b = if mayb p = true then some (strOfNums (hdr p a b) ++ s, 0) else some (⟨#[]⟩, 2) := by
  unfold field_Put.f
  rw [may_val p h0 h1]
  simp only [Option.bind_some]
  by_cases m : mayb p = true
  · rw [if_pos m, if_pos m]
    have q1 : field_Put.p1 p a = strOfNums (if a = true ∧ p ≠ 49185 then [] else [255, 3]) := by
      unfold field_Put.p1 field_Put.Pick; (split <;> rfl)
    have q2 : field_Put.p2 p b = strOfNums (if b = true ∧ p < 256 then [p % 256] else [p / 256 % 256, p % 256]) := by
      unfold field_Put.p2 field_Put.Pick
      by_cases c : b = true ∧ p < 256
      · rw [if_pos c, if_pos ⟨by simp [c.1, c.2], by omega⟩]
        rfl
      · rw [if_neg c, if_neg (fun h => c (by simpa using h.1))]
    rw [q1, q2]
    unfold field_join.f
    rw [fl_join _ _ _ (by rw [hw_strs]; split <;> simp) (by rw [hw_strs]; split <;> simp) hs]
    simp only [Option.bind_some]
    rw [fl_strs_append]; rfl
  · rw [if_neg m, if_neg m]

theorem fl_bt (xs : List Int) (s : ByteArray) (i : Nat) (h : i < xs.length) (h0 : 0 ≤ xs[i]) (h1 : xs[i] ≤ 255) : bt (strOfNums xs ++ s) (i : Int) = xs[i] := by
  rw [hw_bt_l _ _ _ (by rw [hw_strs]; simpa using h)]
  exact hw_bt_n xs i (by simpa using h) (by simpa using h0) (by simpa using h1)
theorem fl_rest (a s : ByteArray) (n : Nat) (h : n = a.size) : (a ++ s).extract n (a ++ s).size = s := by
  subst h
  rw [ByteArray.size_append]
  exact ByteArray.extract_append_eq_right rfl rfl
theorem fl_size (xs : List Int) (s : ByteArray) : (strOfNums xs ++ s).size = xs.length + s.size := by rw [ByteArray.size_append, hw_strs]
theorem trim_front (s : ByteArray) : trim (strOfNums [255, 3] ++ s) = s := by
  unfold trim
  have z := fl_size [255, 3] s
  rw [if_pos ⟨by rw [z]; simp, fl_bt [255, 3] s 0 (by decide) (by decide) (by decide), fl_bt [255, 3] s 1 (by decide) (by decide) (by decide)⟩]
  exact fl_rest _ _ 2 (by rw [hw_strs]; rfl)
theorem trim_not (s : ByteArray) (h : bt s 0 ≠ 255) : trim s = s := by unfold trim; rw [if_neg (fun g => h g.2.1)]
theorem get_two (hi lo : Int) (s : ByteArray) (h0 : 0 ≤ hi) (h1 : hi ≤ 255) (h2 : hi % 2 = 0) (l0 : 0 ≤ lo) (l1 : lo ≤ 255) : field_Get.g (strOfNums [hi, lo] ++ s) = field_Get.tail (hi * 256 + lo) s := by
  have z := fl_size [hi, lo] s
  have b0 : bt (strOfNums [hi, lo] ++ s) 0 = hi := fl_bt [hi, lo] s 0 (by simp) h0 h1
  have b1 : bt (strOfNums [hi, lo] ++ s) 1 = lo := fl_bt [hi, lo] s 1 (by simp) l0 l1
  unfold field_Get.g
  rw [if_neg (by rw [z]; simp), b0, b1, if_neg (by omega), if_neg (by rw [z]; simp), fl_rest _ _ 2 (by rw [hw_strs]; rfl)]
theorem get_one (lo : Int) (s : ByteArray) (l0 : 0 ≤ lo) (l1 : lo ≤ 255) (l2 : lo % 2 = 1) : field_Get.g (strOfNums [lo] ++ s) = field_Get.tail lo s := by
  have z := fl_size [lo] s
  have b0 : bt (strOfNums [lo] ++ s) 0 = lo := fl_bt [lo] s 0 (by simp) l0 l1
  unfold field_Get.g
  rw [if_neg (by rw [z]; simp), b0, if_pos l2, fl_rest _ _ 1 (by rw [hw_strs]; rfl)]
theorem mayb_iff (p : Int) : mayb p = true ↔ p % 2 = 1 ∧ (p / 256) % 2 = 0 ∧ p ≠ 255 := by unfold mayb; rw [decide_eq_true_iff]
theorem tail_val (p : Int) (s : ByteArray) (h0 : 0 ≤ p) (h1 : p ≤ 65535) : field_Get.tail p s = if mayb p = true then some (p, s, 0) else some (0, ⟨#[]⟩, 7) := by
  unfold field_Get.tail; rw [may_val p h0 h1]; rfl
theorem get_hdr (p : Int) (h0 : 0 ≤ p) (h1 : p ≤ 65535) (m : mayb p = true) (s : ByteArray) (a b : Bool) : field_Get.f (strOfNums (hdr p a b) ++ s) = some (p, s, 0) := by
  have hm := (mayb_iff p).1 m
  have key : field_Get.g (strOfNums (if b = true ∧ p < 256 then [p % 256] else [p / 256 % 256, p % 256]) ++ s) = some (p, s, 0) := by
    by_cases c : b = true ∧ p < 256
    · rw [if_pos c, get_one _ _ (by omega) (by omega) (by omega), tail_val _ _ (by omega) (by omega), show p % 256 = p from by omega, if_pos m]
    · rw [if_neg c, get_two _ _ _ (by omega) (by omega) (by omega) (by omega) (by omega), tail_val _ _ (by omega) (by omega), show p / 256 % 256 * 256 + p % 256 = p from by omega, if_pos m]
  have b0 : bt (strOfNums (if b = true ∧ p < 256 then [p % 256] else [p / 256 % 256, p % 256]) ++ s) 0 ≠ 255 := by
    by_cases c : b = true ∧ p < 256
    · rw [if_pos c]
      have := fl_bt [p % 256] s 0 (by simp) (by simp; omega) (by simp; omega)
      rw [show bt (strOfNums [p % 256] ++ s) 0 = p % 256 from this]; omega
    · rw [if_neg c]
      have := fl_bt [p / 256 % 256, p % 256] s 0 (by simp) (by simp; omega) (by simp; omega)
      rw [show bt (strOfNums [p / 256 % 256, p % 256] ++ s) 0 = p / 256 % 256 from this]; omega
  rw [get_val]
  unfold hdr
  by_cases c : a = true ∧ p ≠ 49185
  · rw [if_pos c, List.nil_append, trim_not _ b0, key]
  · rw [if_neg c, ← fl_strs_append, ByteArray.append_assoc, trim_front, key]
theorem u16_in (n : Int) (h0 : 0 ≤ n) (h1 : n ≤ 65535) : IntKind.u16.wrap n = n := by rw [IntKind.wrap_u16]; omega
theorem get_ref1 (k : Nat) (t : ByteArray) : halyardref06_Get.j1 (k + 1) t = field_Get.g t := by
  have b0 := bt_range t 0
  have b1 := bt_range t 1
  simp only [halyardref06_Get.j1]
  unfold field_Get.g
  have e0 : IntKind.u16.wrap (bt t 0) = bt t 0 := u16_in _ (by omega) (by omega)
  have e1 : IntKind.u16.wrap (bt t 1) = bt t 1 := u16_in _ (by omega) (by omega)
  have e2 : IntKind.u16.wrap (bt t 0 * 256) = bt t 0 * 256 := u16_in _ (by omega) (by omega)
  have e3 : IntKind.u16.wrap (bt t 0 * 256 + bt t 1) = bt t 0 * 256 + bt t 1 := u16_in _ (by omega) (by omega)
  rw [e0, e1, e2, e3, Int.tmod_eq_emod_of_nonneg (by omega)]
  by_cases c : t.size = 0
  · rw [if_pos (fl_nil.2 c), if_pos c]
  · rw [if_neg (fun h => c (fl_nil.1 h)), if_neg c, if_pos (by omega)]
    by_cases d : bt t 0 % 2 = 1
    · rw [if_neg (by omega), if_pos d]
      unfold field_Get.tail
      rw [may_val _ (by omega) (by omega), may_ref _ (by omega) (by omega)]
      simp only [Option.bind_some]
      rw [if_pos (show (1 : Int) ≤ t.size by omega)]
    · rw [if_pos (by omega), if_neg d]
      by_cases e : t.size < 2
      · rw [if_pos (by omega), if_pos e]
      · rw [if_neg (by omega), if_neg e, if_pos (by omega)]
        unfold field_Get.tail
        rw [may_val _ (by omega) (by omega), may_ref _ (by omega) (by omega)]
        simp only [Option.bind_some]
        rw [if_pos (show (2 : Int) ≤ t.size by omega)]
theorem get_ref (k : Nat) (t : ByteArray) : halyardref06_Get.f (k + 2) t = field_Get.f t := by
  rw [get_val]
  unfold halyardref06_Get.f trim
  by_cases c : 2 ≤ t.size
  · rw [if_pos (by omega), if_pos (by omega)]
    by_cases d : bt t 0 = 255
    · rw [if_pos d, if_pos (by omega)]
      simp only [halyardref06_Get.j0]
      by_cases e : bt t 1 = 3
      · rw [if_pos (by simpa using e), if_pos (by omega), if_pos ⟨c, d, e⟩, get_ref1]
      · rw [if_neg (by simpa using e), if_neg (fun h => e h.2.2), get_ref1]
    · rw [if_neg d]
      simp only [halyardref06_Get.j0]
      rw [if_neg (by simp), if_neg (fun h => d h.2.1), get_ref1]
  · rw [if_neg (by omega)]
    simp only [halyardref06_Get.j0]
    rw [if_neg (by simp), if_neg (fun h => c h.1), get_ref1]
theorem put_ref (k : Nat) (p : Int) (h0 : 0 ≤ p) (h1 : p ≤ 65535) (s : ByteArray) (hs : s.size ≤ 1000000000000) (a b : Bool) : halyardref06_Put.f (k + 1) p s a b = field_Put.f p s a b := by
  rw [put_val p h0 h1 s hs a b]
  unfold halyardref06_Put.f
  rw [may_ref p h0 h1]
  simp only [Option.bind_some]
  by_cases m : mayb p = true
  · rw [if_pos m, if_pos m]
    have e1 : Int.tdiv p 256 = p / 256 := by rw [Int.tdiv_eq_ediv_of_nonneg h0]
    have e2 : IntKind.u16.wrap (p / 256) = p / 256 := u16_in _ (by omega) (by omega)
    have e3 : Int.tmod p 256 = p % 256 := by rw [Int.tmod_eq_emod_of_nonneg h0]
    have e4 : p % 256 % 256 = p % 256 := by omega
    have fit : ∀ xs : List Int, xs.length ≤ 4 → (strOfNums xs).size + s.size ≤ 9223372036854775807 := fun xs h => by rw [hw_strs]; omega
    have key : ∀ x18 : Bool, halyardref06_Put.j0 (k + 1) p s [] x18 a b = some (strOfNums ((if x18 = true then [255, 3] else []) ++ (if b = true ∧ p < 256 then [p % 256] else [p / 256 % 256, p % 256])) ++ s, 0) := by
      intro x18
      simp only [halyardref06_Put.j0]
      rw [e1, e2, e3, e4]
      cases x18 <;> cases b <;> by_cases d : p / 256 = 0 <;> by_cases e : p = 49185 <;>
        simp [d, e, fit] <;> (try omega) <;> (try (have d' : p < 256 := by omega); simp [d']) <;> (try (have d' : ¬ p < 256 := by omega); simp [d'])
    cases a with
    | false =>
      rw [if_neg (by simp), key]
      simp [hdr]
    | true =>
      rw [if_pos rfl, key]
      by_cases e : p = 49185 <;> simp [hdr, e]
  · rw [if_neg m, if_neg m]
theorem alive_true : halyardlaw06_alive.f = some true := by decide +kernel
/-- What Get answers. -/
theorem get_any (t : ByteArray) : (∃ p s, 0 ≤ p ∧ p ≤ 65535 ∧ mayb p = true ∧ s.size ≤ t.size ∧ field_Get.f t = some (p, s, 0)) ∨ (∃ e, e ≠ 0 ∧ field_Get.f t = some (0, ⟨#[]⟩, e)) := by
  rw [get_val]
  have b0 := bt_range (trim t) 0
  have b1 := bt_range (trim t) 1
  have hs : (trim t).size ≤ t.size := by unfold trim; split <;> simp [ByteArray.size_extract]
  have tl : ∀ (p : Int) (n : Nat), 0 ≤ p → p ≤ 65535 → (∃ p' s, 0 ≤ p' ∧ p' ≤ 65535 ∧ mayb p' = true ∧ s.size ≤ t.size ∧ field_Get.tail p ((trim t).extract n (trim t).size) = some (p', s, 0)) ∨ (∃ e, e ≠ 0 ∧ field_Get.tail p ((trim t).extract n (trim t).size) = some (0, ⟨#[]⟩, e)) := by
    intro p n h0 h1
    rw [tail_val p _ h0 h1]
    by_cases m : mayb p = true
    · rw [if_pos m]; exact .inl ⟨p, _, h0, h1, m, by rw [ByteArray.size_extract]; omega, rfl⟩
    · rw [if_neg m]; exact .inr ⟨7, by decide, rfl⟩
  unfold field_Get.g
  split
  · exact .inr ⟨6, by decide, rfl⟩
  split
  · exact tl _ _ (by omega) (by omega)
  split
  · exact .inr ⟨6, by decide, rfl⟩
  · exact tl _ _ (by omega) (by omega)

theorem hdr_size (p : Int) (a b : Bool) (_h0 : 0 ≤ p) : ((hdr p a b).length : Int) = 4 - (if a = true ∧ p ≠ 49185 then 2 else 0) - (if b = true ∧ p < 256 then 1 else 0) := by
  unfold hdr; rw [List.length_append]; split <;> split <;> simp
theorem short_round (k : Nat) (p : Int) (s : ByteArray) (i : Int) (h0 : 0 ≤ p) (h1 : p ≤ 65535) (hs : s.size ≤ 16384) (m : mayb p = true) (i0 : 0 ≤ i) (i1 : i < 4) (r : Option Bool) (hr : halyardlaw06_FieldShort.l0 k p s (i + 1) = r) :
    halyardlaw06_FieldShort.l0 (k + 4) p s i = r := by
  simp only [halyardlaw06_FieldShort.l0]
  rw [if_pos i1, put_val p h0 h1 s (by omega), if_pos m]
  simp only [Option.bind_some]
  generalize ha : (Int.tmod i 2 == 1) = a
  generalize hb : (wrap64 (Int.tdiv i 2) == 1) = b
  have hz := hdr_size p a b h0
  have hl : ((strOfNums (hdr p a b) ++ s).size : Int) = (hdr p a b).length + s.size := by rw [fl_size]; omega
  have w4 : wrap64 ((s.size : Int) + 4) = s.size + 4 := by unfold wrap64; omega
  have wi : wrap64 (i + 1) = i + 1 := by unfold wrap64; omega
  have hsx : ∀ n : Nat, n = (hdr p a b).length → ((strOfNums (hdr p a b) ++ s).extract n (strOfNums (hdr p a b) ++ s).size).toList = s.toList := fun n h => by rw [fl_rest _ _ n (by rw [hw_strs]; exact h)]
  have j4 : ∀ (n : Int) (f : Bool), f = true ∧ n - 1 = s.size + (hdr p a b).length ∨ f = false ∧ n = s.size + (hdr p a b).length → halyardlaw06_FieldShort.j4 (k + 1) p s i (strOfNums (hdr p a b) ++ s) 0 n f = r := by
    have hh := hdr_len p a b
    intro n f hf
    simp only [halyardlaw06_FieldShort.j4]
    rw [wi, hr, hl]
    rcases hf with ⟨rfl, hn⟩ | ⟨rfl, hn⟩
    · have w1 : wrap64 (n - 1) = n - 1 := by unfold wrap64; omega
      have w2 : wrap64 (n - 1 - s.size) = n - 1 - s.size := by unfold wrap64; omega
      rw [w1, w2, if_pos (by trivial), if_pos (by trivial), if_pos (by omega), if_pos (by omega), if_pos (by omega), if_pos (hsx _ (by omega))]
    · have w2 : wrap64 (n - s.size) = n - s.size := by unfold wrap64; omega
      rw [w2, if_neg (by simp), if_pos (by trivial), if_pos (by omega), if_pos (by omega), if_pos (by omega), if_pos (hsx _ (by omega))]
  have j3 : ∀ n : Int, n - (if b = true ∧ p < 256 then 1 else 0) = s.size + (hdr p a b).length → halyardlaw06_FieldShort.j3 (k + 2) p s i (strOfNums (hdr p a b) ++ s) 0 n a b = r := by
    intro n hn
    simp only [halyardlaw06_FieldShort.j3]
    cases b with
    | true =>
      rw [if_pos (by trivial)]
      by_cases d : p < 256
      · rw [if_pos ⟨rfl, d⟩] at hn; exact j4 n _ (.inl ⟨by simpa using d, hn⟩)
      · rw [if_neg (fun h => d h.2)] at hn; exact j4 n _ (.inr ⟨by simpa using d, by omega⟩)
    | false =>
      rw [if_neg (by simp)]
      rw [if_neg (by simp)] at hn
      exact j4 n _ (.inr ⟨rfl, by omega⟩)
  have j2 : ∀ f : Bool, (f = true ↔ a = true ∧ p ≠ 49185) → halyardlaw06_FieldShort.j2 (k + 3) p s i (strOfNums (hdr p a b) ++ s) 0 (wrap64 ((s.size : Int) + 4)) f a b = r := by
    intro f hf
    simp only [halyardlaw06_FieldShort.j2]
    rw [w4]
    by_cases g : f = true
    · rw [if_pos g]
      rw [if_pos (hf.1 g)] at hz
      have w5 : wrap64 ((s.size : Int) + 4 - 2) = s.size + 4 - 2 := by unfold wrap64; omega
      rw [w5]
      exact j3 _ (by omega)
    · rw [if_neg g]
      rw [if_neg (fun h => g (hf.2 h))] at hz
      exact j3 _ (by omega)
  by_cases q : Int.tmod i 2 = 1
  · rw [if_pos q]
    obtain rfl : a = true := by rw [← ha]; simpa using q
    exact j2 _ (by simp)
  · rw [if_neg q]
    obtain rfl : a = false := by rw [← ha]; simpa using q
    exact j2 _ (by simp)
theorem FieldShort : halyardlaw06_FieldShort.Pure := by
  intro p s hp h2
  have hp' : 0 ≤ p ∧ p ≤ 65535 := by
    simp only [Lit.wf, Bool.and_eq_true, decide_eq_true_eq] at hp; exact hp
  obtain ⟨h0, h1⟩ := hp'
  refine ⟨30, ?_⟩
  unfold halyardlaw06_FieldShort.f
  rw [may_val p h0 h1]
  simp only [Option.bind_some]
  have j0 : ∀ f : Bool, (f = false → s.size ≤ 16384 ∧ mayb p = true) → halyardlaw06_FieldShort.j0 30 p s f = some true := by
    intro f hf
    simp only [halyardlaw06_FieldShort.j0]
    rw [alive_true]
    cases f with
    | true => rfl
    | false =>
      rw [if_neg (by simp)]
      obtain ⟨hs, m⟩ := hf rfl
      refine short_round 25 p s 0 h0 h1 hs m (by decide) (by decide) _ ?_
      refine short_round 21 p s 1 h0 h1 hs m (by decide) (by decide) _ ?_
      refine short_round 17 p s 2 h0 h1 hs m (by decide) (by decide) _ ?_
      refine short_round 13 p s 3 h0 h1 hs m (by decide) (by decide) _ ?_
      simp only [halyardlaw06_FieldShort.l0]
      rw [alive_true, if_neg (by decide)]; rfl
  by_cases c : (s.size : Int) > 16384
  · rw [if_pos c]; exact j0 true (by simp)
  · rw [if_neg c]; exact j0 _ (fun h => ⟨by omega, by simpa using h⟩)

end Go.Proofs.Ytdlpoemjgeehgaa.Pure
