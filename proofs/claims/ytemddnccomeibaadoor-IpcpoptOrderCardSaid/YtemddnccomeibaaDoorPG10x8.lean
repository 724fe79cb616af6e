-- WRITTEN by wip/tools/hprint.py: the kit's print.py run over this translation, with functions proved by hand laid in. Lean checks it.
import Derived.Test.YtemddnccomeibaaDoorPG10x0
namespace Go.Proofs.YtemddnccomeibaaDoor.PG10
open Go.RowKit Go.Proofs.YtemddnccomeibaaDoorW.PrintWords Go.Proofs.YtemddnccomeibaaDoorW.PrintLast Go.Proofs.YtemddnccomeibaaDoorW.PrintMore Go.Proofs.YtemddnccomeibaaDoorHW
attribute [local go_sem] max2_int min2_int max_two min_two max_three min_three max_four min_four   -- for this text's walks alone
set_option linter.unusedVariables false
set_option linter.unusedSimpArgs false

/-! ### strings_Join: function 26 -/
def strings_Join.tl (s : ByteArray) : List ByteArray → ByteArray
  | [] => ⟨#[]⟩
  | x :: r => s ++ x ++ strings_Join.tl s r
def strings_Join.j (s : ByteArray) : List ByteArray → ByteArray
  | [] => ⟨#[]⟩
  | x :: r => x ++ strings_Join.tl s r
def strings_Join.sum : List ByteArray → Nat
  | [] => 0
  | x :: r => x.size + strings_Join.sum r
def strings_Join.f (l0 : List ByteArray) (a1 : ByteArray) : Option ByteArray :=
  if l0.length * a1.size + strings_Join.sum l0 ≤ 100000000000000 ∧ l0.length ≤ 100000000000000 then some (strings_Join.j a1 l0) else none
theorem strings_Join.sum_take (l : List ByteArray) : ∀ (k : Nat) (x : ByteArray), l[k]? = some x → strings_Join.sum (l.take (k + 1)) = strings_Join.sum (l.take k) + x.size ∧ strings_Join.sum (l.take k) + x.size ≤ strings_Join.sum l := by
  induction l with
  | nil => intro k x h; simp at h
  | cons y r ih =>
    intro k x h
    match k, h with
    | 0, h =>
      simp only [List.getElem?_cons_zero, Option.some.injEq] at h
      subst h
      simp [strings_Join.sum]
    | k + 1, h =>
      rw [List.getElem?_cons_succ] at h
      obtain ⟨h1, h2⟩ := ih k x h
      simp only [List.take_succ_cons, strings_Join.sum]
      omega
theorem strings_Join.tl_size (s : ByteArray) : ∀ l : List ByteArray, (strings_Join.tl s l).size = l.length * s.size + strings_Join.sum l
  | [] => by show (⟨#[]⟩ : ByteArray).size = 0 * s.size + 0; rw [Nat.zero_mul]; rfl
  | x :: r => by
    show (s ++ x ++ strings_Join.tl s r).size = (r.length + 1) * s.size + (x.size + strings_Join.sum r)
    rw [ByteArray.size_append, ByteArray.size_append, strings_Join.tl_size s r, Nat.add_mul]; omega
theorem strings_Join.j_size (s : ByteArray) (l : List ByteArray) : (strings_Join.j s l).size ≤ l.length * s.size + strings_Join.sum l := by
  match l with
  | [] => exact Nat.zero_le _
  | x :: r =>
    show (x ++ strings_Join.tl s r).size ≤ (r.length + 1) * s.size + (x.size + strings_Join.sum r)
    rw [ByteArray.size_append, strings_Join.tl_size s r, Nat.add_mul]; omega
theorem strings_Join.first {w w1 : World} {ad : Addr} {n : Nat} {l : List ByteArray} {x : ByteArray} (h : Kd.C Kd.string w (some ad) n l) (hb : Below w.heap.size w w1) (hc : w.cell? ad = some (.string x)) : w1.cell? ad = some (.string x) := by
  rw [hb.cell (p := ad) (by
    rcases Nat.lt_or_ge ad.block w.heap.size with h' | h'
    · exact h'
    · have h0 : w.heap[ad.block]? = none := Array.getElem?_eq_none h'
      simp [World.cell?, h0] at hc)]
  exact hc
theorem strings_Join.ws (B b : Nat) (a s r : ByteArray) (w : World) (hr : r = a ++ s) (h : Lib.IsBuilder 75 5 B b (Lib.byteCells a.data.toList) w) (hlen : a.size + s.size ≤ 140737488355328) (hBw : B ≤ w.heap.size) :
    Calls Tryd.prog 35 #[.pointer (some ⟨b, 0, none⟩), .string s] w fun e w' => e = .returned (.tuple #[.int .i64 s.size, .nilIface]) ∧ (Lib.IsBuilder 75 5 B b (Lib.byteCells r.data.toList) w' ∧ Below B w w') := by
  subst hr
  refine (Go.Proofs.YtemddnccomeibaaDoorHB.WriteString B b _ s w h (by rw [Lib.byteCells_length, ← Lib.size_eq]; omega) hBw).mono ?_
  rintro e w2 ⟨rfl, hi2, hb2⟩
  have e : Lib.byteCells (a ++ s).data.toList = Lib.byteCells a.data.toList ++ Lib.strCells s := by
    rw [ByteArray.data_append, Array.toList_append]; simp [Lib.byteCells, Lib.strCells]
  rw [e]
  exact ⟨rfl, .inr hi2, hb2⟩
theorem strings_Join.cell (w : World) (A0 : Option Addr) (l0 : List ByteArray) (hr0 : Kd.C Kd.string w A0 l0.length l0) (j : Nat) (x : ByteArray) (hx : l0[j]? = some x) : ∃ ad, A0 = some ad ∧ w.cell? (ad.add j) = some (.string x) := by
  have hl : j < l0.length := (List.getElem?_eq_some_iff.1 hx).1
  obtain ⟨ad, rfl, hcell⟩ := hr0.2.2 (by omega)
  refine ⟨ad, rfl, ?_⟩
  obtain ⟨c, hc1, hc2, hc3⟩ := hcell j x hx
  have hc4 := hc3 0 (.string x) (by rw [show c = [.string x] from hc2]; rfl)
  simpa only [Kd.string, Kd.scalar, Nat.mul_one, Nat.add_zero] using hc4
set_option maxRecDepth 100000 in
set_option maxHeartbeats 1000000 in
theorem strings_Join.calls (A0 : Option Addr) (c0 : Nat) (l0 : List ByteArray) (a1 : ByteArray) (r : ByteArray) (w : World) (hr0 : Kd.C Kd.string w A0 l0.length l0) (hc0 : l0.length ≤ c0) (h : strings_Join.f l0 a1 = some r) :
    Calls Tryd.prog 26 #[.slice A0 l0.length c0, .string a1] w fun e w' => e = .returned (.string r) ∧ Below w.heap.size w w' := by
  unfold strings_Join.f at h
  by_cases c : l0.length * a1.size + strings_Join.sum l0 ≤ 100000000000000 ∧ l0.length ≤ 100000000000000
  case neg => rw [if_neg c] at h; exact absurd h (by simp)
  rw [if_pos c] at h
  simp only [Option.some.injEq] at h
  subst h
  obtain ⟨hz, hzl⟩ := c
  by_cases h2 : 2 ≤ l0.length
  · have d0 : ((l0.length : Int) == 0) = false := beq_eq_false_iff_ne.mpr (by omega)
    have d1 : ((l0.length : Int) == 1) = false := beq_eq_false_iff_ne.mpr (by omega)
    obtain ⟨N0, hN0⟩ : ∃ N0, N0 = a1.size * (l0.length - 1) := ⟨_, rfl⟩
    have hNle : N0 + strings_Join.sum l0 ≤ 100000000000000 := by
      have : N0 ≤ l0.length * a1.size := by rw [hN0, Nat.mul_comm]; exact Nat.mul_le_mul_right _ (by omega)
      omega
    have HR := Aside0.mk hr0
    clear hr0
    by_cases hs : 0 < a1.size
    · have HN := Aside0.mk (show True from trivial)
      have ov : (a1.size : Int) < 9223372036854775807 / ((l0.length : Int) - 1) := by
        have e : ((a1.size : Int) + 1) * ((l0.length : Int) - 1) = (N0 : Int) + ((l0.length : Int) - 1) := by
          rw [Int.add_mul, hN0, Int.natCast_mul, Int.natCast_sub (by omega)]; simp
        have := Int.le_ediv_of_mul_le (show (0 : Int) < (l0.length : Int) - 1 by omega) (show ((a1.size : Int) + 1) * ((l0.length : Int) - 1) ≤ 9223372036854775807 by rw [e]; omega)
        omega
      have wN : wrap64 ((a1.size : Int) * ((l0.length : Int) - 1)) = (N0 : Int) := by
        have e : ((a1.size : Int) * ((l0.length : Int) - 1)) = (N0 : Int) := by rw [hN0, Int.natCast_mul, Int.natCast_sub (by omega)]; rfl
        rw [e]; unfold wrap64; omega
      clear hN0
      have HZ := Aside0.mk hz
      clear hz
      go_enter Tryd.func26, Tryd.ntmps26
      go_wp2_with fail
      go_loop [5, 41] (fun v5 v41 => ∃ k : Nat, k ≤ l0.length ∧ v41 = .int .i64 (k : Int) ∧ v5 = .int .i64 ((N0 : Int) + (strings_Join.sum (l0.take k) : Nat))) (fun _ v41 => l0.length - (intOf v41).toNat)
      case atStart => exact ⟨0, by omega, rfl, by have := HN.out; simp [strings_Join.sum]; try omega⟩
      case round =>
        obtain ⟨k, hk, rfl, rfl⟩ := hrel
        by_cases hlt : k < l0.length
        · obtain ⟨x, hx⟩ : ∃ x, l0[k]? = some x := ⟨_, List.getElem?_eq_getElem hlt⟩
          obtain ⟨ad, rfl, hcl⟩ := strings_Join.cell w A0 l0 HR.out k x hx
          obtain ⟨s1, s2⟩ := strings_Join.sum_take l0 k x hx
          have S1 := Aside0.mk s1
          have hb1 : N0 + strings_Join.sum (l0.take k) + x.size ≤ 100000000000000 := by omega
          clear hx s1 s2
          go_wp2_with fail
          go_round
          case rel => exact ⟨k + 1, by omega, by go_num, by rw [S1.out]; go_num⟩
          case measure => simp [intOf]; omega
        · obtain rfl : l0.length = k := by omega
          obtain ⟨x0, hx0⟩ : ∃ x, l0[0]? = some x := ⟨_, List.getElem?_eq_getElem (by omega)⟩
          obtain ⟨ad, rfl, hc0x⟩ := strings_Join.cell w A0 l0 HR.out 0 x0 hx0
          obtain ⟨s1, s2⟩ := strings_Join.sum_take l0 0 x0 hx0
          replace hc0x : w.cell? ad = some (.string x0) := hc0x
          have HT := Aside0.mk (show l0.take l0.length = l0 from List.take_length)
          rw [HT.out]
          have hx0s : x0.size ≤ 100000000000000 := by omega
          have X0 := Aside0.mk hx0
          have C0 := Aside0.mk hc0x
          clear hx0 s1 s2
          go_wp2_with (first | (go_at_call 34; go_must (rw [show (N0 : Int) + ((strings_Join.sum l0 : Nat) : Int) = ((N0 + strings_Join.sum l0 : Nat) : Int) from by omega]); go_must (refine (Go.Proofs.Tryd.Builder_Grow_fresh w.heap.size w.heap.size (N0 + strings_Join.sum l0) _ (Nat.le_refl _) (blk_new w _) (Nat.le_of_lt (blk_lt (blk_new w _))) (by omega)).mono ?_); go_must (rintro e w1 ⟨rfl, hi, hb⟩; have HI1 := Aside0.mk (show Lib.IsBuilder 75 5 w.heap.size w.heap.size (Lib.byteCells (⟨#[]⟩ : ByteArray).data.toList) w1 from .inr hi); have HB1 := Aside0.mk ((below_alloc (Below.refl _ _) _).trans hb); clear hi hb; have q0 := strings_Join.first HR.out HB1.out C0.out)) | (go_at_call 35; go_must (refine (strings_Join.ws _ _ (⟨#[]⟩ : ByteArray) x0 x0 _ (ByteArray.empty_append).symm HI1.out (by have z0 : (⟨#[]⟩ : ByteArray).size = 0 := rfl; omega) HB1.out.size).mono ?_); go_must (rintro e w2 ⟨rfl, hi, hb⟩; have HI2 := Aside0.mk hi; have HB2 := Aside0.mk (HB1.out.trans hb); clear hi hb q0)))
          go_loopw [65] (fun v65 wr => ∃ (k : Nat) (acc : ByteArray), k + 1 ≤ l0.length ∧ v65 = .int .i64 (k : Int) ∧ Aside0 (acc ++ strings_Join.tl a1 (l0.drop (k + 1)) = strings_Join.j a1 l0) ∧ Aside0 (Lib.IsBuilder 75 5 w.heap.size w.heap.size (Lib.byteCells acc.data.toList) wr) ∧ Aside0 (Below w.heap.size w wr)) (fun v65 _ => l0.length - (intOf v65).toNat)
          case atStart => exact ⟨0, x0, by omega, rfl, ⟨by have := X0.out; match l0, this with | y :: r, this => (simp only [List.getElem?_cons_zero, Option.some.injEq] at this; subst this; rfl)⟩, HI2, HB2⟩
          case round =>
            obtain ⟨k, acc, hk, rfl, HA, HI, HB⟩ := hrel
            by_cases hlt : k + 1 < l0.length
            · obtain ⟨x, hx⟩ : ∃ x, l0[k + 1]? = some x := ⟨_, List.getElem?_eq_getElem hlt⟩
              obtain ⟨ad', ead, hcl⟩ := strings_Join.cell _ _ l0 (Kd.C_below HR.out HB.out) (k + 1) x hx
              obtain rfl : ad = ad' := by simpa using ead
              have hd : strings_Join.tl a1 (l0.drop (k + 1)) = a1 ++ x ++ strings_Join.tl a1 (l0.drop (k + 1 + 1)) := by
                rw [List.drop_eq_getElem_cons hlt]
                rw [List.getElem?_eq_getElem hlt] at hx
                rw [Option.some.inj hx]; rfl
              have hJ := strings_Join.j_size a1 l0
              have hz := HZ.out
              have HA1 := Aside0.mk (show (acc ++ a1) ++ x ++ strings_Join.tl a1 (l0.drop (k + 1 + 1)) = strings_Join.j a1 l0 by rw [← HA.out, hd]; simp only [ByteArray.append_assoc])
              have hsz : acc.size + a1.size + x.size ≤ 100000000000000 := by
                have := congrArg ByteArray.size HA1.out
                simp only [ByteArray.size_append] at this
                omega
              replace hcl : wr.cell? ⟨ad.block, ad.off + 1 + k, none⟩ = some (.string x) := by
                rw [← hcl]; unfold Addr.add; rw [if_neg (by omega), Nat.add_assoc, Nat.add_comm 1 k]
              clear hx hd hJ ead hz
              have tok1 : True := trivial
              have tok2 : True := trivial
              go_wp2_with (first | (go_at_call 35; have t_ := tok1; clear t_; go_must (refine (strings_Join.ws _ _ acc a1 (acc ++ a1) _ rfl HI.out (by omega) HB.out.size).mono ?_); go_must (rintro e w3 ⟨rfl, hi, hb⟩; have HI3 := Aside0.mk hi; have HB3 := Aside0.mk (HB.out.trans hb); clear hi hb tok1)) | (go_at_call 35; have t_ := tok2; clear t_; go_must (refine (strings_Join.ws _ _ (acc ++ a1) x (acc ++ a1 ++ x) _ rfl HI3.out (by rw [ByteArray.size_append]; omega) HB3.out.size).mono ?_); go_must (rintro e w4 ⟨rfl, hi, hb⟩; have HI4 := Aside0.mk hi; have HB4 := Aside0.mk (HB3.out.trans hb); clear hi hb tok2)))
              go_roundw
              case rel => exact ⟨k + 1, acc ++ a1 ++ x, by omega, by go_num, HA1, HI4, HB4⟩
              case measure => simp [intOf]; omega
            · have hke : l0.length - 1 ≤ k := by omega
              replace HA := Aside0.mk (show acc = strings_Join.j a1 l0 by
                rw [← HA.out, List.drop_eq_nil_of_le (by omega)]; exact ByteArray.append_empty.symm)
              go_wp2_with (go_at_call 36; go_must (refine (Go.Proofs.YtemddnccomeibaaDoorHB.String_ _ _ acc.data.toList _ HI.out HB.out.size).mono ?_); rintro e w7 ⟨rfl, hb7⟩; have HB7 := Aside0.mk (HB.out.trans hb7); clear hb7)
              go_ret
              exact ⟨by rw [← HA.out]; rfl, HB7.out⟩
    · have HN := Aside0.mk (show (0 : Int) = N0 by rw [hN0, show a1.size = 0 by omega]; simp)
      have hs0 : ¬ 0 < a1.size := hs
      have HZ := Aside0.mk hz
      clear hN0 hz hs
      go_enter Tryd.func26, Tryd.ntmps26
      go_wp2_with fail
      go_loop [5, 41] (fun v5 v41 => ∃ k : Nat, k ≤ l0.length ∧ v41 = .int .i64 (k : Int) ∧ v5 = .int .i64 ((N0 : Int) + (strings_Join.sum (l0.take k) : Nat))) (fun _ v41 => l0.length - (intOf v41).toNat)
      case atStart => exact ⟨0, by omega, rfl, by have := HN.out; simp [strings_Join.sum]; try omega⟩
      case round =>
        obtain ⟨k, hk, rfl, rfl⟩ := hrel
        by_cases hlt : k < l0.length
        · obtain ⟨x, hx⟩ : ∃ x, l0[k]? = some x := ⟨_, List.getElem?_eq_getElem hlt⟩
          obtain ⟨ad, rfl, hcl⟩ := strings_Join.cell w A0 l0 HR.out k x hx
          obtain ⟨s1, s2⟩ := strings_Join.sum_take l0 k x hx
          have S1 := Aside0.mk s1
          have hb1 : N0 + strings_Join.sum (l0.take k) + x.size ≤ 100000000000000 := by omega
          clear hx s1 s2
          go_wp2_with fail
          go_round
          case rel => exact ⟨k + 1, by omega, by go_num, by rw [S1.out]; go_num⟩
          case measure => simp [intOf]; omega
        · obtain rfl : l0.length = k := by omega
          obtain ⟨x0, hx0⟩ : ∃ x, l0[0]? = some x := ⟨_, List.getElem?_eq_getElem (by omega)⟩
          obtain ⟨ad, rfl, hc0x⟩ := strings_Join.cell w A0 l0 HR.out 0 x0 hx0
          obtain ⟨s1, s2⟩ := strings_Join.sum_take l0 0 x0 hx0
          replace hc0x : w.cell? ad = some (.string x0) := hc0x
          have HT := Aside0.mk (show l0.take l0.length = l0 from List.take_length)
          rw [HT.out]
          have hx0s : x0.size ≤ 100000000000000 := by omega
          have X0 := Aside0.mk hx0
          have C0 := Aside0.mk hc0x
          clear hx0 s1 s2
          go_wp2_with (first | (go_at_call 34; go_must (rw [show (N0 : Int) + ((strings_Join.sum l0 : Nat) : Int) = ((N0 + strings_Join.sum l0 : Nat) : Int) from by omega]); go_must (refine (Go.Proofs.Tryd.Builder_Grow_fresh w.heap.size w.heap.size (N0 + strings_Join.sum l0) _ (Nat.le_refl _) (blk_new w _) (Nat.le_of_lt (blk_lt (blk_new w _))) (by omega)).mono ?_); go_must (rintro e w1 ⟨rfl, hi, hb⟩; have HI1 := Aside0.mk (show Lib.IsBuilder 75 5 w.heap.size w.heap.size (Lib.byteCells (⟨#[]⟩ : ByteArray).data.toList) w1 from .inr hi); have HB1 := Aside0.mk ((below_alloc (Below.refl _ _) _).trans hb); clear hi hb; have q0 := strings_Join.first HR.out HB1.out C0.out)) | (go_at_call 35; go_must (refine (strings_Join.ws _ _ (⟨#[]⟩ : ByteArray) x0 x0 _ (ByteArray.empty_append).symm HI1.out (by have z0 : (⟨#[]⟩ : ByteArray).size = 0 := rfl; omega) HB1.out.size).mono ?_); go_must (rintro e w2 ⟨rfl, hi, hb⟩; have HI2 := Aside0.mk hi; have HB2 := Aside0.mk (HB1.out.trans hb); clear hi hb q0)))
          go_loopw [65] (fun v65 wr => ∃ (k : Nat) (acc : ByteArray), k + 1 ≤ l0.length ∧ v65 = .int .i64 (k : Int) ∧ Aside0 (acc ++ strings_Join.tl a1 (l0.drop (k + 1)) = strings_Join.j a1 l0) ∧ Aside0 (Lib.IsBuilder 75 5 w.heap.size w.heap.size (Lib.byteCells acc.data.toList) wr) ∧ Aside0 (Below w.heap.size w wr)) (fun v65 _ => l0.length - (intOf v65).toNat)
          case atStart => exact ⟨0, x0, by omega, rfl, ⟨by have := X0.out; match l0, this with | y :: r, this => (simp only [List.getElem?_cons_zero, Option.some.injEq] at this; subst this; rfl)⟩, HI2, HB2⟩
          case round =>
            obtain ⟨k, acc, hk, rfl, HA, HI, HB⟩ := hrel
            by_cases hlt : k + 1 < l0.length
            · obtain ⟨x, hx⟩ : ∃ x, l0[k + 1]? = some x := ⟨_, List.getElem?_eq_getElem hlt⟩
              obtain ⟨ad', ead, hcl⟩ := strings_Join.cell _ _ l0 (Kd.C_below HR.out HB.out) (k + 1) x hx
              obtain rfl : ad = ad' := by simpa using ead
              have hd : strings_Join.tl a1 (l0.drop (k + 1)) = a1 ++ x ++ strings_Join.tl a1 (l0.drop (k + 1 + 1)) := by
                rw [List.drop_eq_getElem_cons hlt]
                rw [List.getElem?_eq_getElem hlt] at hx
                rw [Option.some.inj hx]; rfl
              have hJ := strings_Join.j_size a1 l0
              have hz := HZ.out
              have HA1 := Aside0.mk (show (acc ++ a1) ++ x ++ strings_Join.tl a1 (l0.drop (k + 1 + 1)) = strings_Join.j a1 l0 by rw [← HA.out, hd]; simp only [ByteArray.append_assoc])
              have hsz : acc.size + a1.size + x.size ≤ 100000000000000 := by
                have := congrArg ByteArray.size HA1.out
                simp only [ByteArray.size_append] at this
                omega
              replace hcl : wr.cell? ⟨ad.block, ad.off + 1 + k, none⟩ = some (.string x) := by
                rw [← hcl]; unfold Addr.add; rw [if_neg (by omega), Nat.add_assoc, Nat.add_comm 1 k]
              clear hx hd hJ ead hz
              have tok1 : True := trivial
              have tok2 : True := trivial
              go_wp2_with (first | (go_at_call 35; have t_ := tok1; clear t_; go_must (refine (strings_Join.ws _ _ acc a1 (acc ++ a1) _ rfl HI.out (by omega) HB.out.size).mono ?_); go_must (rintro e w3 ⟨rfl, hi, hb⟩; have HI3 := Aside0.mk hi; have HB3 := Aside0.mk (HB.out.trans hb); clear hi hb tok1)) | (go_at_call 35; have t_ := tok2; clear t_; go_must (refine (strings_Join.ws _ _ (acc ++ a1) x (acc ++ a1 ++ x) _ rfl HI3.out (by rw [ByteArray.size_append]; omega) HB3.out.size).mono ?_); go_must (rintro e w4 ⟨rfl, hi, hb⟩; have HI4 := Aside0.mk hi; have HB4 := Aside0.mk (HB3.out.trans hb); clear hi hb tok2)))
              go_roundw
              case rel => exact ⟨k + 1, acc ++ a1 ++ x, by omega, by go_num, HA1, HI4, HB4⟩
              case measure => simp [intOf]; omega
            · have hke : l0.length - 1 ≤ k := by omega
              replace HA := Aside0.mk (show acc = strings_Join.j a1 l0 by
                rw [← HA.out, List.drop_eq_nil_of_le (by omega)]; exact ByteArray.append_empty.symm)
              go_wp2_with (go_at_call 36; go_must (refine (Go.Proofs.YtemddnccomeibaaDoorHB.String_ _ _ acc.data.toList _ HI.out HB.out.size).mono ?_); rintro e w7 ⟨rfl, hb7⟩; have HB7 := Aside0.mk (HB.out.trans hb7); clear hb7)
              go_ret
              exact ⟨by rw [← HA.out]; rfl, HB7.out⟩
  · by_cases h1 : l0.length = 1
    · obtain ⟨x, rfl⟩ : ∃ x, l0 = [x] := List.length_eq_one_iff.1 h1
      obtain ⟨ad, rfl, hc0x⟩ := strings_Join.cell w A0 [x] hr0 0 x rfl
      replace hc0x : w.cell? ad = some (.string x) := hc0x
      clear hr0 hz h1 h2
      go_enter Tryd.func26, Tryd.ntmps26
      go_wp2_with fail
      go_ret
      exact ⟨congrArg (fun y => Ending.returned (.string y)) (show x = x ++ (⟨#[]⟩ : ByteArray) from ByteArray.append_empty.symm), Below.refl _ _⟩
    · obtain rfl : l0 = [] := List.eq_nil_of_length_eq_zero (by omega)
      go_enter Tryd.func26, Tryd.ntmps26
      go_wp2_with fail
      go_ret
      exact ⟨rfl, Below.refl _ _⟩


end Go.Proofs.YtemddnccomeibaaDoor.PG10
