/- ipcpopt: the document's Get says what the program's does. -/
import Derived.Test.YtemddnccomeibaaDoorHIpB
import Derived.Test.YtemddnccomeibaaDoorPG10m
namespace Go.Proofs.YtemddnccomeibaaDoorHIp
open Go.RowKit Go.Proofs.YtemddnccomeibaaDoorW.PrintWords Go.Proofs.YtemddnccomeibaaDoorHW Go.Proofs.YtemddnccomeibaaDoorHG Go.Proofs.YtemddnccomeibaaDoor.PG10
set_option linter.unusedVariables false
set_option linter.unusedSimpArgs false
theorem refGood (o : Op) : halyardref10_Good.f o.f0 o.f1 = some (decide (good o)) := by
  have e : ((o.f1.size : Int) == 4) = decide (o.f1.size = 4) := by
    by_cases h : o.f1.size = 4
    · rw [h]; rfl
    · rw [decide_eq_false h]; exact beq_eq_false_iff_ne.2 (by omega)
  unfold halyardref10_Good.f good
  rw [e]
  by_cases h3 : o.f0 = 3
  · rw [if_pos h3]; simp [h3]
  · rw [if_neg h3]
    by_cases h4 : o.f0 = 129
    · rw [if_pos h4]; simp [h4]
    · rw [if_neg h4]
      by_cases h5 : o.f0 = 131
      · rw [if_pos h5]; simp [h5]
      · rw [if_neg h5]; simp [h3, h4, h5]
theorem or24 (x y : Int) (x0 : 0 ≤ x) (x1 : x < 4294967296) (hx : x % 16777216 = 0) (y0 : 0 ≤ y) (y1 : y < 16777216) : Go.bits .or .u32 x y = x + y :=
  Go.bits_join .u32 32 (by decide) (fun n h0 h1 => by rw [IntKind.wrap_u32]; omega) 24 x y x0 (by omega) (by omega) y0 (by omega) (by omega)
theorem or16 (x y : Int) (x0 : 0 ≤ x) (x1 : x < 4294967296) (hx : x % 65536 = 0) (y0 : 0 ≤ y) (y1 : y < 65536) : Go.bits .or .u32 x y = x + y :=
  Go.bits_join .u32 32 (by decide) (fun n h0 h1 => by rw [IntKind.wrap_u32]; omega) 16 x y x0 (by omega) (by omega) y0 (by omega) (by omega)
theorem or8 (x y : Int) (x0 : 0 ≤ x) (x1 : x < 4294967296) (hx : x % 256 = 0) (y0 : 0 ≤ y) (y1 : y < 256) : Go.bits .or .u32 x y = x + y :=
  Go.bits_join .u32 32 (by decide) (fun n h0 h1 => by rw [IntKind.wrap_u32]; omega) 8 x y x0 (by omega) (by omega) y0 (by omega) (by omega)
theorem refValue (s : ByteArray) (h : s.size = 4) : halyardref10_value.f s = some (value4 s) := by
  unfold halyardref10_value.f value4
  rw [if_pos (by omega), if_pos (by omega), if_pos (by omega), if_pos (by omega)]
  have b0 := bt_range s 0
  have b1 := bt_range s 1
  have b2 := bt_range s 2
  have b3 := bt_range s 3
  generalize bt s 0 = y0 at *
  generalize bt s 1 = y1 at *
  generalize bt s 2 = y2 at *
  generalize bt s 3 = y3 at *
  rw [show y0 % 4294967296 * 16777216 % 4294967296 = 16777216 * y0 by omega, show y1 % 4294967296 * 65536 % 4294967296 = 65536 * y1 by omega, show y2 % 4294967296 * 256 % 4294967296 = 256 * y2 by omega, show y3 % 4294967296 = y3 by omega]
  rw [or24 (16777216 * y0) (65536 * y1) (by omega) (by omega) (by omega) (by omega) (by omega), or16 (16777216 * y0 + 65536 * y1) (256 * y2) (by omega) (by omega) (by omega) (by omega) (by omega), or8 (16777216 * y0 + 65536 * y1 + 256 * y2) y3 (by omega) (by omega) (by omega) (by omega) (by omega)]
def had (t : Int) (q : Op) : Bool := decide (good q) && decide (q.f0 = t)
theorem w64 (i : Nat) (h : i ≤ 100000) : wrap64 ((i : Int) + 1) = ((i + 1 : Nat) : Int) := by
  unfold wrap64
  omega
theorem scan (l : List Op) (odd : List Op) (x : Ip) (i : Nat) (p : Op) (hp : l[i]? = some p) (hl : l.length ≤ 100000) (k : Nat) : ∀ (n j : Nat), j + n = i →
    halyardref10_Get.l1 (k + n + 1) l odd (i : Int) (j : Int) x.h0 x.a0 x.h1 x.a1 x.h2 x.a2 = if ((l.take i).drop j).any (had p.f0) = true then some (false, 0, false, 0, false, 0, [], 9) else halyardref10_Get.l1 (k + 1) l odd (i : Int) (i : Int) x.h0 x.a0 x.h1 x.a1 x.h2 x.a2
  | 0, j, h => by
    obtain rfl : j = i := by omega
    rw [List.drop_eq_nil_of_le (by rw [List.length_take]; omega)]
    rfl
  | n + 1, j, h => by
    have hi := (List.getElem?_eq_some_iff.1 hp).1
    have hjl : j < l.length := by omega
    obtain ⟨q, hq⟩ : ∃ q, l[j]? = some q := ⟨_, List.getElem?_eq_getElem hjl⟩
    have e : (l.take i).drop j = q :: (l.take i).drop (j + 1) := by
      have h1 : j < (l.take i).length := by rw [List.length_take]; omega
      rw [List.drop_eq_getElem_cons h1]
      congr 1
      rw [List.getElem_take]
      exact Option.some.inj ((List.getElem?_eq_getElem hjl).symm.trans hq)
    have ih := scan l odd x i p hp hl k n (j + 1) (by omega)
    rw [show k + (n + 1) + 1 = (k + n + 1) + 1 by omega]
    rw [halyardref10_Get.l1, if_pos (by omega), if_pos (by omega), if_pos (by omega), rd_of hq, rd_of hp, refGood, w64 j (by omega), ih, if_pos (by omega), if_pos (by omega), e, List.any_cons]
    simp only [Option.bind_some]
    unfold had
    by_cases c : good q
    · by_cases d : q.f0 = p.f0
      · simp [c, d]
      · simp [c, d]
    · simp [c]
/-- A result, in the print's order. -/
def outK (r : Ip × List Op × Int) : Bool × Int × Bool × Int × Bool × Int × List Op × Int := (r.1.h0, r.1.a0, r.1.h1, r.1.a1, r.1.h2, r.1.a2, r.2.1, r.2.2)
theorem had_set (x : Ip) (t s v : Int) (ht : t = 3 ∨ t = 129 ∨ t = 131) (hs : s = 3 ∨ s = 129 ∨ s = 131) : hasI (setI x s v) t = (hasI x t || decide (s = t)) := by
  rcases ht with rfl | rfl | rfl <;> rcases hs with rfl | rfl | rfl <;> simp [hasI, setI]
theorem any_snoc (l : List Op) (i : Nat) (p : Op) (hp : l[i]? = some p) (f : Op → Bool) : (l.take (i + 1)).any f = ((l.take i).any f || f p) := by
  rw [List.take_add_one, hp]
  simp
theorem refAt (l : List Op) (hl : l.length ≤ 100000) : ∀ (n i : Nat) (x : Ip) (odd : List Op), i + n = l.length → odd.length ≤ i → (∀ t, (t = 3 ∨ t = 129 ∨ t = 131) → hasI x t = (l.take i).any (had t)) →
    ∃ k, halyardref10_Get.l0 k l odd (i : Int) x.h0 x.a0 x.h1 x.a1 x.h2 x.a2 = some (outK (getF x odd (l.drop i)))
  | 0, i, x, odd, h, ho, hx => ⟨1, by
      rw [halyardref10_Get.l0, if_neg (by omega), List.drop_eq_nil_of_le (by omega)]
      rfl⟩
  | n + 1, i, x, odd, h, ho, hx => by
    have hlt : i < l.length := by omega
    obtain ⟨p, hp⟩ : ∃ p, l[i]? = some p := ⟨_, List.getElem?_eq_getElem hlt⟩
    have hdr : l.drop i = p :: l.drop (i + 1) := by rw [List.drop_eq_getElem_cons hlt]; congr 1; exact Option.some.inj ((List.getElem?_eq_getElem hlt).symm.trans hp)
    rw [hdr, getF]
    by_cases c : good p
    · rw [if_pos c]
      have ht : p.f0 = 3 ∨ p.f0 = 129 ∨ p.f0 = 131 := c.1
      by_cases d : hasI x p.f0 = true
      · refine ⟨(0 + i + 1) + 1, ?_⟩
        rw [if_pos d, halyardref10_Get.l0, if_pos (by omega), if_pos (by omega), rd_of hp, refGood, decide_eq_true c]
        simp only [Option.bind_some, if_true]
        have := scan l odd x i p hp hl 0 i 0 (by omega)
        rw [List.drop_zero, ← hx _ ht, if_pos d] at this
        exact this
      · obtain ⟨k, hk⟩ := refAt l hl n (i + 1) (setI x p.f0 (value4 p.f1)) odd (by omega) (by omega) (fun t h3 => by
          rw [had_set x t p.f0 _ h3 ht, any_snoc l i p hp, hx t h3]
          unfold had
          simp [c])
        refine ⟨(k + i + 1) + 1, ?_⟩
        rw [if_neg d, halyardref10_Get.l0, if_pos (by omega), if_pos (by omega), rd_of hp, refGood, decide_eq_true c]
        simp only [Option.bind_some, if_true]
        have := scan l odd x i p hp hl k i 0 (by omega)
        rw [List.drop_zero, ← hx _ ht, if_neg d] at this
        refine Eq.trans this ?_
        rw [halyardref10_Get.l1, if_neg (by omega), if_pos (by omega), if_pos (by omega), rd_of hp, refValue _ c.2]
        simp only [Option.bind_some]
        rw [← hk, w64 i (by omega)]
        rcases ht with h3 | h3 | h3 <;> rw [h3] <;> simp [setI]
    · rw [if_neg c]
      obtain ⟨k, hk⟩ := refAt l hl n (i + 1) x (odd ++ [p]) (by omega) (by rw [List.length_append]; simp; omega) (fun t h3 => by
        rw [any_snoc l i p hp, hx t h3]
        unfold had
        simp [c])
      refine ⟨k + 1, ?_⟩
      rw [halyardref10_Get.l0, if_pos (by omega), if_pos (by omega), rd_of hp, refGood, decide_eq_false c]
      simp only [Option.bind_some, Bool.false_eq_true, if_false]
      rw [if_pos (by omega), w64 i (by omega)]
      exact hk
/-- The document's Get. -/
theorem refGet (l : List Op) (hl : l.length ≤ 100000) : ∃ k, halyardref10_Get.f k l = some (outK (getK l)) := by
  obtain ⟨k, hk⟩ := refAt l hl l.length 0 zIp [] (by omega) (by simp) (fun t h3 => by rcases h3 with rfl | rfl | rfl <;> simp [hasI, zIp])
  exact ⟨k, hk⟩
end Go.Proofs.YtemddnccomeibaaDoorHIp
