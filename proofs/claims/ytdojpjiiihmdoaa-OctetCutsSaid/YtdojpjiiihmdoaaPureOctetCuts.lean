/- The law halyard/halyardlaw01.OctetCuts in plain Lean: what the call comes to is true, whatever the input; no condition. -/
import Derived.Test.YtdojpjiiihmdoaaPG01Lx8
import Derived.Test.YtdojpjiiihmdoaaHW
namespace Go.Proofs.Ytdojpjiiihmdoaa.Pure
open Go.RowKit Go.Proofs.Ytdojpjiiihmdoaa.PG01L Go.Proofs.YtdojpjiiihmdoaaW.PrintWords Go.Proofs.YtdojpjiiihmdoaaW.PrintLast Go.Proofs.YtdojpjiiihmdoaaHW
theorem alive_true : halyardlaw01_alive.f 9 = some true := by decide +kernel
theorem cut_same (s : ByteArray) (n : Int) : halyardref01_Cut.f s n = octet_Cut.f s n := rfl
theorem OctetCuts : halyardlaw01_OctetCuts.Pure := by
  intro s n hs hn
  refine ⟨9, ?_⟩
  unfold halyardlaw01_OctetCuts.f
  by_cases c0 : (s.size : Int) > 32768
  · rw [if_pos c0, alive_true]; rfl
  rw [if_neg c0, cut_same, alive_true]
  have key : ∃ a b e, octet_Cut.f s n = some (a, b, e) ∧ (e = 0 → a.size + b.size ≤ 9223372036854775807 ∧ a ++ b = s ∧ (a.size : Int) = n) := by
    unfold octet_Cut.f
    by_cases c1 : n < 0
    · rw [if_pos c1]; exact ⟨_, _, _, rfl, fun h => absurd h (by decide)⟩
    rw [if_neg c1]
    by_cases c2 : n > (s.size : Int)
    · rw [if_pos c2]; exact ⟨_, _, _, rfl, fun h => absurd h (by decide)⟩
    rw [if_neg c2, if_pos (by omega), if_pos (by omega)]
    refine ⟨_, _, _, rfl, fun _ => ?_⟩
    have h1 : (s.extract 0 n.toNat).size = n.toNat := by rw [ByteArray.size_extract]; omega
    have h2 : (s.extract n.toNat s.size).size = s.size - n.toNat := by rw [ByteArray.size_extract]; omega
    refine ⟨by omega, ?_, by omega⟩
    refine hw_ext _ _ (by rw [ByteArray.size_append]; omega) (fun i hi => ?_)
    rw [ByteArray.size_append] at hi
    by_cases hin : i < n.toNat
    · rw [hw_bt_l _ _ _ (by rw [h1]; simpa using hin), hw_bt_x _ _ _ _ (by rw [h1]; simpa using hin)]; simp
    · rw [hw_bt_r _ _ _ (by rw [h1]; simp; omega), h1, hw_bt_x _ _ _ _ (by rw [h2]; omega)]; congr 1; omega
  obtain ⟨a, b, e, h, hk⟩ := key
  rw [h]
  simp only [Option.bind_some]
  simp only [if_true]
  by_cases he : e = 0
  · obtain ⟨k1, k2, k3⟩ := hk he
    rw [if_pos he, if_pos k1, if_pos (by rw [k2]), if_pos k3]
  · rw [if_neg he]

end Go.Proofs.Ytdojpjiiihmdoaa.Pure
