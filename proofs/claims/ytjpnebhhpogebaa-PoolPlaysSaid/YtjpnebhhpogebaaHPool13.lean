/- The document's answer to the pool: what is not claimed. -/
import Derived.Test.YtjpnebhhpogebaaHPool12
namespace Go.Proofs.YtjpnebhhpogebaaHPool
open Go.RowKit Go.Proofs.YtjpnebhhpogebaaW.PrintWords Go.Proofs.YtjpnebhhpogebaaHW Go.Proofs.YtjpnebhhpogebaaHG
set_option linter.unusedVariables false
set_option linter.unusedSimpArgs false
set_option maxRecDepth 100000 in
set_option maxHeartbeats 1000000 in
theorem RefClaimOut (B g : Nat) (base n a : Int) (s : ByteArray) (M : Int → Option ByteArray) (c : Nat) (w : World) (h : RefAt B w g base n (leases base M n.toNat)) (hv : Valid base n M c) (a0 : 0 ≤ a) (a1 : a < 4294967296) (hh : hasB base n a = false) :
    Calls Try.prog 18 #[.pointer (some ⟨g, 0, none⟩), .int .u32 a, .string s] w fun e w' => e = .returned (.int .i64 2) ∧ Below w.heap.size w w' := by
  have hl := leases_le hv
  have HH := Aside0.mk (RefHas B g base n a _ w h hv.b1 hv.b2 hv.n1 hv.n2 a0 a1)
  have HR := Aside0.mk h
  rw [hh] at HH
  generalize leases base M n.toNat = ls at *
  have HL := Aside0.mk hl
  clear h hv hh
  go_enter Try.func18, Try.ntmps18
  go_wp2_with (first | (go_at_call 22; refine HH.out.mono ?_; rintro e w1 ⟨rfl, hd⟩; have HB1 := Aside0.mk (drawn_below hd); have HR1 := Aside0.mk (HR.out.below (drawn_below hd)); clear hd))
  go_ret
  exact ⟨rfl, HB1.out⟩
set_option maxRecDepth 100000 in
set_option maxHeartbeats 1000000 in
theorem RefClaimEmpty (B g : Nat) (base n a : Int) (s : ByteArray) (M : Int → Option ByteArray) (c : Nat) (w : World) (h : RefAt B w g base n (leases base M n.toNat)) (hv : Valid base n M c) (a0 : 0 ≤ a) (a1 : a < 4294967296) (hh : hasB base n a = true) (hs : s.size = 0) :
    Calls Try.prog 18 #[.pointer (some ⟨g, 0, none⟩), .int .u32 a, .string s] w fun e w' => e = .returned (.int .i64 2) ∧ Below w.heap.size w w' := by
  have hl := leases_le hv
  have HH := Aside0.mk (RefHas B g base n a _ w h hv.b1 hv.b2 hv.n1 hv.n2 a0 a1)
  have HR := Aside0.mk h
  rw [hh] at HH
  have t1 : (s.size : Int) < 1 := by omega
  have t3 : (s.size : Int) ≤ 9223372036854775807 := by omega
  clear hs
  generalize leases base M n.toNat = ls at *
  have HL := Aside0.mk hl
  clear h hv hh
  go_enter Try.func18, Try.ntmps18
  go_wp2_with (first | (go_at_call 22; refine HH.out.mono ?_; rintro e w1 ⟨rfl, hd⟩; have HB1 := Aside0.mk (drawn_below hd); have HR1 := Aside0.mk (HR.out.below (drawn_below hd)); clear hd))
  go_ret
  exact ⟨rfl, HB1.out⟩
set_option maxRecDepth 100000 in
set_option maxHeartbeats 1000000 in
theorem RefClaimLong (B g : Nat) (base n a : Int) (s : ByteArray) (M : Int → Option ByteArray) (c : Nat) (w : World) (h : RefAt B w g base n (leases base M n.toNat)) (hv : Valid base n M c) (a0 : 0 ≤ a) (a1 : a < 4294967296) (hh : hasB base n a = true) (hs : 32 < s.size) :
    Calls Try.prog 18 #[.pointer (some ⟨g, 0, none⟩), .int .u32 a, .string s] w fun e w' => e = .returned (.int .i64 2) ∧ Below w.heap.size w w' := by
  have hl := leases_le hv
  have HH := Aside0.mk (RefHas B g base n a _ w h hv.b1 hv.b2 hv.n1 hv.n2 a0 a1)
  have HR := Aside0.mk h
  rw [hh] at HH
  have t1 : ¬ (s.size : Int) < 1 := by omega
  have t2 : (32 : Int) < (s.size : Int) := by omega
  clear hs
  generalize leases base M n.toNat = ls at *
  have HL := Aside0.mk hl
  clear h hv hh
  go_enter Try.func18, Try.ntmps18
  go_wp2_with (first | (go_at_call 22; refine HH.out.mono ?_; rintro e w1 ⟨rfl, hd⟩; have HB1 := Aside0.mk (drawn_below hd); have HR1 := Aside0.mk (HR.out.below (drawn_below hd)); clear hd))
  go_ret
  exact ⟨rfl, HB1.out⟩
set_option maxRecDepth 100000 in
set_option maxHeartbeats 1000000 in
theorem RefClaimHave (B g : Nat) (base n a : Int) (s : ByteArray) (M : Int → Option ByteArray) (c : Nat) (w : World) (h : RefAt B w g base n (leases base M n.toNat)) (hv : Valid base n M c) (a0 : 0 ≤ a) (a1 : a < 4294967296) (hh : hasB base n a = true) (hs : ¬ s.size = 0) (hs2 : s.size ≤ 32) (hM : (M a).isSome = true) :
    Calls Try.prog 18 #[.pointer (some ⟨g, 0, none⟩), .int .u32 a, .string s] w fun e w' => e = .returned (.int .i64 9) ∧ Below w.heap.size w w' := by
  have hl := leases_le hv
  have HH := Aside0.mk (RefHas B g base n a _ w h hv.b1 hv.b2 hv.n1 hv.n2 a0 a1)
  have HR := Aside0.mk h
  rw [hh] at HH
  have t1 : ¬ (s.size : Int) < 1 := by omega
  have t2 : ¬ (32 : Int) < (s.size : Int) := by omega
  have t3 : (s.size : Int) ≤ 9223372036854775807 := by omega
  obtain ⟨j, hj, hjl⟩ : ∃ j : Nat, atIx (leases base M n.toNat) a = (j : Int) ∧ j < (leases base M n.toNat).length := by
    rcases atIx_look hv a with ⟨hM', _⟩ | ⟨s', j, _, hi, hq⟩
    · rw [hM'] at hM; exact absurd hM (by simp)
    · exact ⟨j, hi, (List.getElem?_eq_some_iff.1 hq).1⟩
  have HIX := Aside0.mk hj
  have j1 : (0 : Int) ≤ (j : Int) := by omega
  clear hM hj
  generalize leases base M n.toNat = ls at *
  have HL := Aside0.mk hl
  clear h hv hh
  go_enter Try.func18, Try.ntmps18
  go_wp2_with (first | (go_at_call 22; refine HH.out.mono ?_; rintro e w1 ⟨rfl, hd⟩; have HB1 := Aside0.mk (drawn_below hd); have HR1 := Aside0.mk (HR.out.below (drawn_below hd)); clear hd) | (go_at_call 27; refine (RefAtOf B g base n a _ _ HR1.out (by have := HL.out; omega)).mono ?_; rw [HIX.out]; rintro e w2 ⟨rfl, rfl⟩))
  go_ret
  exact ⟨rfl, HB1.out⟩
set_option maxRecDepth 100000 in
set_option maxHeartbeats 1000000 in
theorem RefGiveNo (B g : Nat) (base n a : Int) (M : Int → Option ByteArray) (c : Nat) (w : World) (h : RefAt B w g base n (leases base M n.toNat)) (hv : Valid base n M c) (hM : (M a).isSome = false) :
    Calls Try.prog 19 #[.pointer (some ⟨g, 0, none⟩), .int .u32 a] w fun e w' => e = .returned (.int .i64 3) ∧ w' = w := by
  have hl := leases_le hv
  have hix : atIx (leases base M n.toNat) a = -1 := by
    rcases atIx_look hv a with ⟨_, hi⟩ | ⟨s', j, hM', _, _⟩
    · exact hi
    · rw [hM'] at hM; exact absurd hM (by simp)
  have HA := Aside0.mk (RefAtOf B g base n a _ w h (by omega))
  rw [hix] at HA
  clear h hv hM hix
  go_enter Try.func19, Try.ntmps19
  go_wp2_with (go_at_call 27; refine HA.out.mono ?_; rintro e w1 ⟨rfl, rfl⟩)
  go_ret
  exact ⟨rfl, rfl⟩
end Go.Proofs.YtjpnebhhpogebaaHPool
