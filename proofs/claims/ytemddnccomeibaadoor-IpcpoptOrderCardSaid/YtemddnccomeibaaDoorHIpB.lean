/- ipcpopt: what was put is got; IpcpoptBack's walk. -/
import Derived.Test.YtemddnccomeibaaDoorHIp8
import Derived.Test.YtemddnccomeibaaDoorHIpA
namespace Go.Proofs.YtemddnccomeibaaDoorHIp
open Go.RowKit Go.Proofs.YtemddnccomeibaaDoorW.PrintWords Go.Proofs.YtemddnccomeibaaDoorHW Go.Proofs.YtemddnccomeibaaDoorHG Go.Proofs.YtemddnccomeibaaDoor.PG10
set_option linter.unusedVariables false
set_option linter.unusedSimpArgs false
theorem putB_size (v : Int) : (putB v).size = 4 := hw_strs _
theorem v4_put (v : Int) (h0 : 0 ≤ v) (h1 : v < 4294967296) : value4 (putB v) = v := by
  have e0 : bt (putB v) ((0 : Nat) : Int) = v / 16777216 % 256 := hw_bt_n _ _ (by simp) (by simp; omega) (by simp; omega)
  have e1 : bt (putB v) ((1 : Nat) : Int) = v / 65536 % 256 := hw_bt_n _ _ (by simp) (by simp; omega) (by simp; omega)
  have e2 : bt (putB v) ((2 : Nat) : Int) = v / 256 % 256 := hw_bt_n _ _ (by simp) (by simp; omega) (by simp; omega)
  have e3 : bt (putB v) ((3 : Nat) : Int) = v % 256 := hw_bt_n _ _ (by simp) (by simp; omega) (by simp; omega)
  unfold value4
  rw [show bt (putB v) 0 = _ from e0, show bt (putB v) 1 = _ from e1, show bt (putB v) 2 = _ from e2, show bt (putB v) 3 = _ from e3]
  omega
/-- What was put is got. -/
theorem got (x : Ip) (hx : IpOk x) (hm : may x) : getK (putL x) = (x, [], 0) := by
  obtain ⟨h0, a0, h1, a1, h2, a2⟩ := x
  obtain ⟨l0, u0, l1, u1, l2, u2⟩ := hx
  obtain ⟨m0, m1, m2⟩ := hm
  simp only at l0 u0 l1 u1 l2 u2 m0 m1 m2
  have q0 := v4_put a0 l0 u0
  have q1 := v4_put a1 l1 u1
  have q2 := v4_put a2 l2 u2
  have z0 := putB_size a0
  have z1 := putB_size a1
  have z2 := putB_size a2
  cases h0 <;> cases h1 <;> cases h2 <;> simp_all [putL, getK, getF, good, hasI, setI, zIp]
theorem putL_le (x : Ip) : (putL x).length ≤ 3 := by
  unfold putL
  simp only [List.length_append]
  split <;> split <;> split <;> simp
theorem putL_sz (x : Ip) : ∀ o ∈ putL x, o.f1.size ≤ 140737488351232 := by
  intro o ho
  unfold putL at ho
  have z0 := putB_size x.a0
  have z1 := putB_size x.a1
  have z2 := putB_size x.a2
  rw [List.mem_append, List.mem_append] at ho
  rcases ho with (ho | ho) | ho <;> split at ho <;> simp at ho <;> subst ho <;> simp [z0, z1, z2]
theorem GetIs (A0 : Option Addr) (c0 : Nat) (l : List Op) (x : Ip) (odd : List Op) (k : Int) (h : getK l = (x, odd, k)) (w : World) (hv : VarsAt w) (hr : Kd.C k38 w A0 l.length l) (hc : l.length ≤ c0) (hl : l.length ≤ 100000) (hn : ∀ x ∈ l, x.f1.size ≤ 140737488351232) :
    Calls Tryd.prog 13 #[.slice A0 l.length c0] w fun e w' => ∃ A c, e = .returned (.tuple #[.agg #[.bool x.h0, .int .u32 x.a0, .bool x.h1, .int .u32 x.a1, .bool x.h2, .int .u32 x.a2], .slice A odd.length c, .int .i64 k]) ∧ odd.length ≤ c ∧ Kd.C k38 w' A odd.length odd ∧ Below w.heap.size w w' := by
  refine (Get A0 c0 l w hv hr hc hl hn).mono fun e w' ⟨v, he, ho, hb⟩ => ?_
  rw [h] at he ho
  obtain ⟨A, c, rfl, h1, h2⟩ := C_of_own ho
  exact ⟨A, c, he, h1, h2, hb⟩
theorem readK_e (s : ByteArray) : (readK s).2 = 0 ∨ (readK s).2 = 7 := by
  unfold readK
  split
  · exact .inl rfl
  · exact .inr rfl
end Go.Proofs.YtemddnccomeibaaDoorHIp
