/- The law halyard/halyardlaw01.OctetNumbers in plain Lean: what the call comes to is true, whatever the input; no condition. -/
import Derived.Test.YtdojpjiiihmdoaaPG01Lx11
import Derived.Test.YtdojpjiiihmdoaaHW
namespace Go.Proofs.Ytdojpjiiihmdoaa.Pure
open Go.RowKit Go.Proofs.Ytdojpjiiihmdoaa.PG01L Go.Proofs.YtdojpjiiihmdoaaW.PrintWords Go.Proofs.YtdojpjiiihmdoaaW.PrintLast Go.Proofs.YtdojpjiiihmdoaaHW
theorem alive_true : halyardlaw01_alive.f 9 = some true := by decide +kernel
theorem strs_append (xs ys : List Int) : strOfNums xs ++ strOfNums ys = strOfNums (xs ++ ys) := by
  refine ByteArray.ext ?_
  rw [ByteArray.data_append]
  simp [strOfNums]
theorem nil_strs : (⟨#[]⟩ : ByteArray) = strOfNums [] := by simp [strOfNums]
theorem u64_id (n : Int) (h0 : 0 ≤ n) (h1 : n < 18446744073709551616) : IntKind.u64.wrap n = n := by
  rw [show ∀ n : Int, IntKind.u64.wrap n = n % 18446744073709551616 from fun n => by simp [IntKind.wrap, IntKind.bits, IntKind.signed]]; omega
theorem num_step (k : Nat) (v n i : Int) (xs : List Int) (h0 : 0 ≤ v) (h1 : v < 18446744073709551616) (hi0 : 0 ≤ i) (hi : i < n) (hn : n ≤ 8) (hx : xs.length ≤ 8) :
    halyardref01_Num.l0 (k + 1) v n (strOfNums xs) i = halyardref01_Num.l0 k (v / 256) n (strOfNums (v % 256 :: xs)) (i + 1) := by
  simp only [halyardref01_Num.l0, Option.bind_some]
  rw [if_pos hi, if_pos (by rw [hw_strs, hw_strs]; simp only [List.length_cons, List.length_nil]; omega), strs_append, Int.tmod_eq_emod_of_nonneg h0, Int.tdiv_eq_ediv_of_nonneg h0, u64_id _ (by omega) (by omega), show wrap64 (i + 1) = i + 1 from by unfold wrap64; omega]
  simp
theorem num_end (k : Nat) (v n i : Int) (s : ByteArray) (hi : ¬ i < n) : halyardref01_Num.l0 (k + 1) v n s i = some s := by
  simp only [halyardref01_Num.l0]
  rw [if_neg hi]
theorem num2 (v : Int) (h0 : 0 ≤ v) (h1 : v ≤ 65535) : halyardref01_Num.f 9 v 2 = octet_Put16.f v := by
  unfold halyardref01_Num.f octet_Put16.f
  rw [nil_strs, num_step _ _ _ _ _ h0 (by omega) (by omega) (by omega) (by omega) (by decide), num_step _ _ _ _ _ (by omega) (by omega) (by omega) (by omega) (by omega) (by simp), num_end _ _ _ _ _ (by omega)]
theorem num4 (v : Int) (h0 : 0 ≤ v) (h1 : v ≤ 4294967295) : halyardref01_Num.f 9 v 4 = octet_Put32.f v := by
  unfold halyardref01_Num.f octet_Put32.f
  rw [nil_strs, num_step _ _ _ _ _ h0 (by omega) (by omega) (by omega) (by omega) (by decide), num_step _ _ _ _ _ (by omega) (by omega) (by omega) (by omega) (by omega) (by simp), num_step _ _ _ _ _ (by omega) (by omega) (by omega) (by omega) (by omega) (by simp),
    num_step _ _ _ _ _ (by omega) (by omega) (by omega) (by omega) (by omega) (by simp), num_end _ _ _ _ _ (by omega), show v / 256 / 256 / 256 % 256 = v / 16777216 % 256 from by omega, show v / 256 / 256 % 256 = v / 65536 % 256 from by omega]
theorem val_step (k : Nat) (s : ByteArray) (v i : Int) (h0 : 0 ≤ v) (h1 : v < 16777216) (hi0 : 0 ≤ i) (hi : i < s.size) (hs : s.size ≤ 8) :
    halyardref01_Value.l0 (k + 1) s v i = halyardref01_Value.l0 k s (v * 256 + bt s i) (i + 1) := by
  have b := bt_range s i
  simp only [halyardref01_Value.l0]
  rw [if_pos hi, if_pos hi0, u64_id (v * 256) (by omega) (by omega), u64_id (bt s i) (by omega) (by omega), u64_id _ (by omega) (by omega), show wrap64 (i + 1) = i + 1 from by unfold wrap64; omega]
theorem val_end (k : Nat) (s : ByteArray) (v i : Int) (hi : ¬ i < s.size) : halyardref01_Value.l0 (k + 1) s v i = some v := by
  simp only [halyardref01_Value.l0]
  rw [if_neg hi]
/-- What Get16 gives: the same as the document's; and what is got is put as it stood. -/
theorem get2 (s : ByteArray) : ∃ v e, octet_Get16.f s = some (v, e) ∧ halyardref01_Get.f 9 s 2 = some (v, e) ∧ 0 ≤ v ∧ v ≤ 65535 ∧ (e = 0 → octet_Put16.f v = some s) := by
  have b0 := bt_range s 0
  have b1 := bt_range s 1
  unfold octet_Get16.f halyardref01_Get.f
  by_cases c1 : (s.size : Int) < 2
  · rw [if_pos c1, if_pos c1]; exact ⟨_, _, rfl, rfl, by omega, by omega, fun h => absurd h (by decide)⟩
  rw [if_neg c1, if_neg c1]
  by_cases c2 : (s.size : Int) > 2
  · rw [if_pos c2, if_pos c2]; exact ⟨_, _, rfl, rfl, by omega, by omega, fun h => absurd h (by decide)⟩
  rw [if_neg c2, if_neg c2]
  have hv : halyardref01_Value.f 9 s = some (256 * bt s 0 + bt s 1) := by
    unfold halyardref01_Value.f
    rw [val_step _ _ _ _ (by omega) (by omega) (by omega) (by omega) (by omega), val_step _ _ _ _ (by omega) (by omega) (by omega) (by omega) (by omega), val_end _ _ _ _ (by omega)]
    simp only [Option.some.injEq, show (0 : Int) + 1 = 1 from rfl]
    omega
  rw [hv]
  refine ⟨_, _, rfl, rfl, by omega, by omega, fun _ => ?_⟩
  unfold octet_Put16.f
  congr 1
  refine hw_ext _ _ (by rw [hw_strs]; simp only [List.length_cons, List.length_nil]; omega) (fun k hk => ?_)
  rw [hw_strs] at hk
  simp only [List.length_cons, List.length_nil] at hk
  have : k = 0 ∨ k = 1 := by omega
  rcases this with rfl | rfl
  · rw [hw_bt_n _ _ (by simp) (by simp; omega) (by simp; omega)]; simp; omega
  · rw [hw_bt_n _ _ (by simp) (by simp; omega) (by simp; omega)]; simp; omega
theorem get4 (s : ByteArray) : ∃ v e, octet_Get32.f s = some (v, e) ∧ halyardref01_Get.f 9 s 4 = some (v, e) ∧ 0 ≤ v ∧ v ≤ 4294967295 ∧ (e = 0 → octet_Put32.f v = some s) := by
  have b0 := bt_range s 0
  have b1 := bt_range s 1
  have b2 := bt_range s 2
  have b3 := bt_range s 3
  unfold octet_Get32.f halyardref01_Get.f
  by_cases c1 : (s.size : Int) < 4
  · rw [if_pos c1, if_pos c1]; exact ⟨_, _, rfl, rfl, by omega, by omega, fun h => absurd h (by decide)⟩
  rw [if_neg c1, if_neg c1]
  by_cases c2 : (s.size : Int) > 4
  · rw [if_pos c2, if_pos c2]; exact ⟨_, _, rfl, rfl, by omega, by omega, fun h => absurd h (by decide)⟩
  rw [if_neg c2, if_neg c2]
  have hv : halyardref01_Value.f 9 s = some (16777216 * bt s 0 + 65536 * bt s 1 + 256 * bt s 2 + bt s 3) := by
    unfold halyardref01_Value.f
    rw [val_step _ _ _ _ (by omega) (by omega) (by omega) (by omega) (by omega), val_step _ _ _ _ (by omega) (by omega) (by omega) (by omega) (by omega)]
    simp only [show (0 : Int) + 1 = 1 from rfl, show (1 : Int) + 1 = 2 from rfl]
    rw [val_step _ _ _ _ (by omega) (by omega) (by omega) (by omega) (by omega)]
    simp only [show (2 : Int) + 1 = 3 from rfl]
    rw [val_step _ _ _ _ (by omega) (by omega) (by omega) (by omega) (by omega), val_end _ _ _ _ (by omega)]
    simp only [Option.some.injEq]
    omega
  rw [hv]
  refine ⟨_, _, rfl, rfl, by omega, by omega, fun _ => ?_⟩
  unfold octet_Put32.f
  congr 1
  refine hw_ext _ _ (by rw [hw_strs]; simp only [List.length_cons, List.length_nil]; omega) (fun k hk => ?_)
  rw [hw_strs] at hk
  simp only [List.length_cons, List.length_nil] at hk
  have : k = 0 ∨ k = 1 ∨ k = 2 ∨ k = 3 := by omega
  rcases this with rfl | rfl | rfl | rfl <;> (rw [hw_bt_n _ _ (by simp) (by simp; omega) (by simp; omega)]; simp; omega)
theorem put2 (v : Int) (h0 : 0 ≤ v) (h1 : v ≤ 65535) : ∃ t, octet_Put16.f v = some t ∧ octet_Get16.f t = some (v, 0) := by
  refine ⟨_, rfl, ?_⟩
  unfold octet_Get16.f
  rw [hw_strs, if_neg (by simp), if_neg (by simp), hw_bt_n _ 0 (by simp) (by simp; omega) (by simp; omega), hw_bt_n _ 1 (by simp) (by simp; omega) (by simp; omega)]
  simp
  omega
theorem put4 (v : Int) (h0 : 0 ≤ v) (h1 : v ≤ 4294967295) : ∃ t, octet_Put32.f v = some t ∧ octet_Get32.f t = some (v, 0) := by
  refine ⟨_, rfl, ?_⟩
  unfold octet_Get32.f
  rw [hw_strs, if_neg (by simp), if_neg (by simp), hw_bt_n _ 0 (by simp) (by simp; omega) (by simp; omega), hw_bt_n _ 1 (by simp) (by simp; omega) (by simp; omega), hw_bt_n _ 2 (by simp) (by simp; omega) (by simp; omega), hw_bt_n _ 3 (by simp) (by simp; omega) (by simp; omega)]
  simp
  omega
theorem OctetNumbers : halyardlaw01_OctetNumbers.Pure := by
  intro v u s hv hu hs
  have hv : 0 ≤ v ∧ v ≤ 65535 := by simp only [Lit.wf, Bool.and_eq_true, decide_eq_true_eq] at hv; exact hv
  have hu : 0 ≤ u ∧ u ≤ 4294967295 := by simp only [Lit.wf, Bool.and_eq_true, decide_eq_true_eq] at hu; exact hu
  refine ⟨9, ?_⟩
  unfold halyardlaw01_OctetNumbers.f
  by_cases c0 : (s.size : Int) > 1024
  · rw [if_pos c0, alive_true]; rfl
  obtain ⟨a, e, h1, h2, a0, a1, h3⟩ := get2 s
  obtain ⟨c, g, h4, h5, c0', c1, h6⟩ := get4 s
  obtain ⟨x, hx, hx2⟩ := put2 v hv.1 hv.2
  obtain ⟨y, hy, hy2⟩ := put4 u hu.1 hu.2
  rw [if_neg c0, u64_id v (by omega) (by omega), u64_id u (by omega) (by omega), num2 v hv.1 hv.2, num4 u hu.1 hu.2, h1, h2, h4, h5, hx, hy]
  simp only [Option.bind_some, u64_id a a0 (by omega), u64_id c c0' (by omega), if_true, bne_self_eq_false]
  simp only [halyardlaw01_OctetNumbers.j0, hx, hx2, hy, hy2, Option.bind_some, if_true, Bool.false_eq_true, if_false]
  have al : halyardlaw01_alive.f 8 = some true := by decide +kernel
  rw [al]
  by_cases he : e = 0
  · rw [if_pos he, h3 he]
    by_cases hg : g = 0
    · rw [if_pos hg, h6 hg]; simp
    · rw [if_neg hg]; simp
  · rw [if_neg he]
    by_cases hg : g = 0
    · rw [if_pos hg, h6 hg]; simp
    · rw [if_neg hg]; simp

end Go.Proofs.Ytdojpjiiihmdoaa.Pure
