/- record: the chapter's example (alive). -/
import Derived.Test.YtmgpaccgjafjeaaHRec3
import Derived.Test.YtmgpaccgjafjeaaHRecR
import Derived.Test.YtmgpaccgjafjeaaPG28m
import Derived.Deep.RegionHeld3
namespace Go.Proofs.YtmgpaccgjafjeaaHVR
open Go.RowKit Go.Proofs.YtmgpaccgjafjeaaW.PrintWords Go.Proofs.YtmgpaccgjafjeaaHW Go.Proofs.YtmgpaccgjafjeaaHG Go.Proofs.Ytmgpaccgjafjeaa.PG28 Go.Proofs.YtmgpaccgjafjeaaHT
set_option linter.unusedVariables false
set_option linter.unusedSimpArgs false
def su5 : El := ⟨⟨#[117]⟩, ⟨#[]⟩, ⟨#[112]⟩, 5, false⟩
def sv5 : El := ⟨⟨#[118]⟩, ⟨#[]⟩, ⟨#[112]⟩, 5, false⟩
def su6 : El := ⟨⟨#[117]⟩, ⟨#[]⟩, ⟨#[112]⟩, 6, false⟩
def su258 : El := ⟨⟨#[117]⟩, ⟨#[]⟩, ⟨#[112]⟩, 258, false⟩
def AliveRet (w : World) (e : Ending) (w' : World) : Prop := e = .returned (.bool true) ∧ Below w.heap.size w w'
theorem ok0 {most : Int} (h1 : 1 ≤ most) (h2 : most ≤ 256) : Ok most [] := ⟨Valid.nil, by simpa using (show (0 : Int) ≤ most by omega), h1, h2⟩
theorem Ok.put {most : Int} {ls : List El} (h : Ok most ls) (x : El) (h0 : 0 ≤ x.f3) (h1 : x.f3 < 4294967296) : Ok most (putF most ls x) := by
  unfold putF
  split
  · rename_i hk
    unfold putK at hk
    split at hk
    · exact absurd hk (by decide)
    · rename_i a1
      split at hk
      · exact absurd hk (by decide)
      · rename_i a2
        split at hk
        · exact absurd hk (by decide)
        · rename_i a3
          refine ⟨put_valid h.v (by simpa using a1) (by simpa using a2) h0 h1, ?_, h.m1, h.m2⟩
          rw [put_len h.v.up]
          have hl := h.len
          split
          · exact hl
          · rename_i a4
            have : ¬ most ≤ (ls.length : Int) := fun e => a3 ⟨by simpa using a4, e⟩
            push_cast
            omega
  · exact h
theorem Ok.del {most : Int} {ls : List El} (h : Ok most ls) (s : ByteArray) : Ok most (del nm ls s) := ⟨del_valid h.v s, del_mono h.v h.len s, h.m1, h.m2⟩
theorem okp1 : Ok 5 [] := ok0 (by decide) (by decide)
theorem e1 : putF 5 [] su5 = [su5] := by kernel_rfl
theorem okp2 : Ok 5 [su5] := by have := okp1.put su5 (by decide) (by decide); rw [e1] at this; exact this
theorem e2 : putF 5 [su5] sv5 = [su5] := by kernel_rfl
theorem okp3 : Ok 5 [su5] := okp2
theorem e3 : putF 5 [su5] su6 = [su6] := by kernel_rfl
theorem okp4 : Ok 5 [su6] := by have := okp3.put su6 (by decide) (by decide); rw [e3] at this; exact this
theorem e4 : putF 5 [su6] sv5 = [su6, sv5] := by kernel_rfl
theorem okp5 : Ok 5 [su6, sv5] := by have := okp4.put sv5 (by decide) (by decide); rw [e4] at this; exact this
theorem k1 : putK 5 [] su5 = 0 := by kernel_rfl
theorem k2 : putK 5 [su5] sv5 = 9 := by kernel_rfl
theorem k3 : putK 5 [su5] su6 = 0 := by kernel_rfl
theorem k4 : putK 5 [su6] sv5 = 0 := by kernel_rfl
theorem putp1 (g b c : Nat) : PutPost g b c 5 [] su5 = fun W e W' => e = .returned (.int .i64 0) ∧ FileAt W' g b c 5 [su5] ∧ K2 b c W W' := by unfold PutPost; rw [k1, e1]
theorem putp2 (g b c : Nat) : PutPost g b c 5 [su5] sv5 = fun W e W' => e = .returned (.int .i64 9) ∧ FileAt W' g b c 5 [su5] ∧ K2 b c W W' := by unfold PutPost; rw [k2, e2]
theorem putp3 (g b c : Nat) : PutPost g b c 5 [su5] su6 = fun W e W' => e = .returned (.int .i64 0) ∧ FileAt W' g b c 5 [su6] ∧ K2 b c W W' := by unfold PutPost; rw [k3, e3]
theorem putp4 (g b c : Nat) : PutPost g b c 5 [su6] sv5 = fun W e W' => e = .returned (.int .i64 0) ∧ FileAt W' g b c 5 [su6, sv5] ∧ K2 b c W W' := by unfold PutPost; rw [k4, e4]
theorem at1 : atP [su6, sv5] 6 = (su6, true) := by kernel_rfl
theorem get1 : get nm [su6, sv5] ⟨#[117]⟩ = some su6 := by kernel_rfl
theorem del1 : del nm [su6, sv5] ⟨#[117]⟩ = [sv5] := by kernel_rfl
theorem at2 : atP [sv5] 6 = (z24, false) := by kernel_rfl
theorem okp6 : Ok 5 [sv5] := by have := okp5.del ⟨#[117]⟩; rw [del1] at this; exact this
theorem by1 : record_Bytes.f su258.f0 su258.f1 su258.f2 su258.f3 su258.f4 = some ((⟨#[1, 117, 0, 1, 112, 0, 0, 1, 2, 0]⟩ : ByteArray), 0) := by
  have e : bytesK su258 = ((⟨#[1, 117, 0, 1, 112, 0, 0, 1, 2, 0]⟩ : ByteArray), 0) := by kernel_rfl
  rw [bytes_val, e]
theorem rd1 : readK (⟨#[1, 117, 0, 1, 112, 0, 0, 1, 2, 0]⟩ : ByteArray) = (su258, 0) := by kernel_rfl
theorem s10 {W : World} {B1 B2 : Nat} (h1 : ElAt W B1 su6) (h2 : ElAt W B2 su258) : W.cell? ⟨B1, 0, none⟩ = some (.string ⟨#[117]⟩) ∧ W.cell? ⟨B1, 1, none⟩ = some (.string ⟨#[]⟩) ∧ W.cell? ⟨B1, 2, none⟩ = some (.string ⟨#[112]⟩) ∧ W.cell? ⟨B1, 3, none⟩ = some (.int .u32 6) ∧ W.cell? ⟨B1, 4, none⟩ = some (.bool false) ∧ W.cell? ⟨B2, 0, none⟩ = some (.string ⟨#[117]⟩) ∧ W.cell? ⟨B2, 1, none⟩ = some (.string ⟨#[]⟩) ∧ W.cell? ⟨B2, 2, none⟩ = some (.string ⟨#[112]⟩) ∧ W.cell? ⟨B2, 3, none⟩ = some (.int .u32 258) ∧ W.cell? ⟨B2, 4, none⟩ = some (.bool false) := ⟨h1.cell 0, h1.cell 1, h1.cell 2, h1.cell 3, h1.cell 4, h2.cell 0, h2.cell 1, h2.cell 2, h2.cell 3, h2.cell 4⟩
theorem readAt {w : World} : Calls Try.prog 12 #[.string (⟨#[1, 117, 0, 1, 112, 0, 0, 1, 2, 0]⟩ : ByteArray)] w fun e w' => e = .returned (.tuple #[.agg #[.string ⟨#[117]⟩, .string ⟨#[]⟩, .string ⟨#[112]⟩, .int .u32 258, .bool false], .int .i64 0]) ∧ Below w.heap.size w w' := by
  refine (Read (⟨#[1, 117, 0, 1, 112, 0, 0, 1, 2, 0]⟩ : ByteArray) w (by decide)).mono fun e w' hp => ?_
  unfold ReadPost at hp
  rw [rd1] at hp
  exact hp

set_option maxRecDepth 100000 in
set_option maxHeartbeats 8000000 in
theorem alive (w : World) : Calls Try.prog 9 #[] w (AliveRet w) := by
  have HB := Aside0.mk (Below.refl w.heap.size w)
  have huE := Try.underlying24
  have hs1 : halyardlaw28_sub.f ⟨#[117]⟩ 5 = some (⟨#[117]⟩, ⟨#[]⟩, ⟨#[112]⟩, 5, false) := by kernel_rfl
  have hs2 : halyardlaw28_sub.f ⟨#[118]⟩ 5 = some (⟨#[118]⟩, ⟨#[]⟩, ⟨#[112]⟩, 5, false) := by kernel_rfl
  have hs3 : halyardlaw28_sub.f ⟨#[117]⟩ 6 = some (⟨#[117]⟩, ⟨#[]⟩, ⟨#[112]⟩, 6, false) := by kernel_rfl
  have hs4 := hs2
  have hs5 : halyardlaw28_sub.f ⟨#[117]⟩ 258 = some (⟨#[117]⟩, ⟨#[]⟩, ⟨#[112]⟩, 258, false) := by kernel_rfl
  have hs0 : halyardlaw28_sub.f ⟨#[117]⟩ 0 = some (⟨#[117]⟩, ⟨#[]⟩, ⟨#[112]⟩, 0, false) := by kernel_rfl
  have hck : record_Check.f ⟨#[117]⟩ ⟨#[]⟩ ⟨#[112]⟩ 0 false = some 2 := by kernel_rfl
  have hbq : ((⟨#[1, 117, 0, 1, 112, 0, 0, 1, 2, 0]⟩ : ByteArray).toList == (⟨#[1, 117, 0, 1, 112, 0, 0, 1, 2, 0]⟩ : ByteArray).toList) = true := beq_self_eq_true _
  have tok1 : True := trivial
  have tok2 : True := trivial
  have tok3 : True := trivial
  have tok4 : True := trivial
  have tok5 : True := trivial
  have tokp1 : True := trivial
  have tokp2 : True := trivial
  have tokp3 : True := trivial
  have tokp4 : True := trivial
  have toka1 : True := trivial
  go_enter Try.func9, Try.ntmps9
  go_upto_region 11 with (first
    | (go_at_call 21; (with_reducible refine (NewNo 0 _ (Or.inl (by decide))).mono ?_); go_must (rintro e w2 ⟨rfl, hb⟩; have HK_ := Aside0.mk (FileAt.below (by repeat (first | (with_reducible exact HK.out) | (with_reducible apply FileAt.alloc) | (with_reducible apply FileAt.drew))) hb); have HB_ := Aside0.mk (below_step (by repeat (first | (with_reducible first | exact HB.out | apply below_alloc | apply pw_below_drewN | apply below_drew1 | apply below_drew) | (refine Below.setCell ?_ (by first | (simp; done) | (simp; omega)) _))) hb); (try have HP_ := Aside0.mk (elAt_call (by repeat (first | (with_reducible exact HP.out) | (with_reducible apply ElAt.drew) | (with_reducible apply ElAt.alloc))) hb)); replace HK := HK_; replace HB := HB_; (try replace HP := HP_); clear HK_ HB_; (try clear HP_)); clear hb)
    | (go_at_call 21; (with_reducible refine (NewYes 5 _ (by decide) (by decide)).mono ?_); go_must (rintro e w1 ⟨g, b, c, rfl, hF, hg1, hb1, hc1, hb⟩; have HK := Aside0.mk hF; replace HB := Aside0.mk (below_step HB.out hb)); clear hF hb)
    | (go_at_call 34; have t_ := tok1; (with_reducible refine (halyardlaw28_sub.calls ⟨#[117]⟩ 5 ⟨#[117]⟩ ⟨#[]⟩ ⟨#[112]⟩ 5 false _ hs1).mono ?_); go_must (rintro e w3 ⟨rfl, hb⟩; have HK_ := Aside0.mk (FileAt.below (by repeat (first | (with_reducible exact HK.out) | (with_reducible apply FileAt.alloc) | (with_reducible apply FileAt.drew))) hb); have HB_ := Aside0.mk (below_step (by repeat (first | (with_reducible first | exact HB.out | apply below_alloc | apply pw_below_drewN | apply below_drew1 | apply below_drew) | (refine Below.setCell ?_ (by first | (simp; done) | (simp; omega)) _))) hb); (try have HP_ := Aside0.mk (elAt_call (by repeat (first | (with_reducible exact HP.out) | (with_reducible apply ElAt.drew) | (with_reducible apply ElAt.alloc))) hb)); replace HK := HK_; replace HB := HB_; (try replace HP := HP_); clear HK_ HB_; (try clear HP_)); clear tok1 hb)
    | (go_at_call 23; have t_ := tokp1; (refine (Put g b c 5 [] su5 _ (by repeat (first | (with_reducible exact HK.out) | (with_reducible apply FileAt.alloc) | (with_reducible apply FileAt.drew))) (okp1) (by decide) (by decide) (by decide)).mono ?_); rw [show PutPost g b c 5 [] su5 = fun W e W' => e = .returned (.int .i64 0) ∧ FileAt W' g b c 5 [su5] ∧ K2 b c W W' from putp1 g b c]; go_must (rintro e w4 ⟨rfl, hF, hK⟩; have HK_ := Aside0.mk hF; have HB_ := Aside0.mk (K2.to_below (by repeat (first | (with_reducible first | exact HB.out | apply below_alloc | apply pw_below_drewN | apply below_drew1 | apply below_drew) | (refine Below.setCell ?_ (by first | (simp; done) | (simp; omega)) _))) hK hb1 hc1 (by have := HB.out.size; simp; omega)); replace HK := HK_; replace HB := HB_; clear HK_ HB_); clear tokp1 hF hK)
    | (go_at_call 34; have t_ := tok2; (with_reducible refine (halyardlaw28_sub.calls ⟨#[118]⟩ 5 ⟨#[118]⟩ ⟨#[]⟩ ⟨#[112]⟩ 5 false _ hs2).mono ?_); go_must (rintro e w5 ⟨rfl, hb⟩; have HK_ := Aside0.mk (FileAt.below (by repeat (first | (with_reducible exact HK.out) | (with_reducible apply FileAt.alloc) | (with_reducible apply FileAt.drew))) hb); have HB_ := Aside0.mk (below_step (by repeat (first | (with_reducible first | exact HB.out | apply below_alloc | apply pw_below_drewN | apply below_drew1 | apply below_drew) | (refine Below.setCell ?_ (by first | (simp; done) | (simp; omega)) _))) hb); (try have HP_ := Aside0.mk (elAt_call (by repeat (first | (with_reducible exact HP.out) | (with_reducible apply ElAt.drew) | (with_reducible apply ElAt.alloc))) hb)); replace HK := HK_; replace HB := HB_; (try replace HP := HP_); clear HK_ HB_; (try clear HP_)); clear tok2 hb)
    | (go_at_call 23; have t_ := tokp2; (refine (Put g b c 5 [su5] sv5 _ (by repeat (first | (with_reducible exact HK.out) | (with_reducible apply FileAt.alloc) | (with_reducible apply FileAt.drew))) (okp2) (by decide) (by decide) (by decide)).mono ?_); rw [show PutPost g b c 5 [su5] sv5 = fun W e W' => e = .returned (.int .i64 9) ∧ FileAt W' g b c 5 [su5] ∧ K2 b c W W' from putp2 g b c]; go_must (rintro e w6 ⟨rfl, hF, hK⟩; have HK_ := Aside0.mk hF; have HB_ := Aside0.mk (K2.to_below (by repeat (first | (with_reducible first | exact HB.out | apply below_alloc | apply pw_below_drewN | apply below_drew1 | apply below_drew) | (refine Below.setCell ?_ (by first | (simp; done) | (simp; omega)) _))) hK hb1 hc1 (by have := HB.out.size; simp; omega)); replace HK := HK_; replace HB := HB_; clear HK_ HB_); clear tokp2 hF hK)
    | (go_at_call 34; have t_ := tok3; (with_reducible refine (halyardlaw28_sub.calls ⟨#[117]⟩ 6 ⟨#[117]⟩ ⟨#[]⟩ ⟨#[112]⟩ 6 false _ hs3).mono ?_); go_must (rintro e w7 ⟨rfl, hb⟩; have HK_ := Aside0.mk (FileAt.below (by repeat (first | (with_reducible exact HK.out) | (with_reducible apply FileAt.alloc) | (with_reducible apply FileAt.drew))) hb); have HB_ := Aside0.mk (below_step (by repeat (first | (with_reducible first | exact HB.out | apply below_alloc | apply pw_below_drewN | apply below_drew1 | apply below_drew) | (refine Below.setCell ?_ (by first | (simp; done) | (simp; omega)) _))) hb); (try have HP_ := Aside0.mk (elAt_call (by repeat (first | (with_reducible exact HP.out) | (with_reducible apply ElAt.drew) | (with_reducible apply ElAt.alloc))) hb)); replace HK := HK_; replace HB := HB_; (try replace HP := HP_); clear HK_ HB_; (try clear HP_)); clear tok3 hb)
    | (go_at_call 23; have t_ := tokp3; (refine (Put g b c 5 [su5] su6 _ (by repeat (first | (with_reducible exact HK.out) | (with_reducible apply FileAt.alloc) | (with_reducible apply FileAt.drew))) (okp3) (by decide) (by decide) (by decide)).mono ?_); rw [show PutPost g b c 5 [su5] su6 = fun W e W' => e = .returned (.int .i64 0) ∧ FileAt W' g b c 5 [su6] ∧ K2 b c W W' from putp3 g b c]; go_must (rintro e w8 ⟨rfl, hF, hK⟩; have HK_ := Aside0.mk hF; have HB_ := Aside0.mk (K2.to_below (by repeat (first | (with_reducible first | exact HB.out | apply below_alloc | apply pw_below_drewN | apply below_drew1 | apply below_drew) | (refine Below.setCell ?_ (by first | (simp; done) | (simp; omega)) _))) hK hb1 hc1 (by have := HB.out.size; simp; omega)); replace HK := HK_; replace HB := HB_; clear HK_ HB_); clear tokp3 hF hK)
    | (go_at_call 34; have t_ := tok4; (with_reducible refine (halyardlaw28_sub.calls ⟨#[118]⟩ 5 ⟨#[118]⟩ ⟨#[]⟩ ⟨#[112]⟩ 5 false _ hs4).mono ?_); go_must (rintro e w9 ⟨rfl, hb⟩; have HK_ := Aside0.mk (FileAt.below (by repeat (first | (with_reducible exact HK.out) | (with_reducible apply FileAt.alloc) | (with_reducible apply FileAt.drew))) hb); have HB_ := Aside0.mk (below_step (by repeat (first | (with_reducible first | exact HB.out | apply below_alloc | apply pw_below_drewN | apply below_drew1 | apply below_drew) | (refine Below.setCell ?_ (by first | (simp; done) | (simp; omega)) _))) hb); (try have HP_ := Aside0.mk (elAt_call (by repeat (first | (with_reducible exact HP.out) | (with_reducible apply ElAt.drew) | (with_reducible apply ElAt.alloc))) hb)); replace HK := HK_; replace HB := HB_; (try replace HP := HP_); clear HK_ HB_; (try clear HP_)); clear tok4 hb)
    | (go_at_call 23; have t_ := tokp4; (refine (Put g b c 5 [su6] sv5 _ (by repeat (first | (with_reducible exact HK.out) | (with_reducible apply FileAt.alloc) | (with_reducible apply FileAt.drew))) (okp4) (by decide) (by decide) (by decide)).mono ?_); rw [show PutPost g b c 5 [su6] sv5 = fun W e W' => e = .returned (.int .i64 0) ∧ FileAt W' g b c 5 [su6, sv5] ∧ K2 b c W W' from putp4 g b c]; go_must (rintro e w10 ⟨rfl, hF, hK⟩; have HK_ := Aside0.mk hF; have HB_ := Aside0.mk (K2.to_below (by repeat (first | (with_reducible first | exact HB.out | apply below_alloc | apply pw_below_drewN | apply below_drew1 | apply below_drew) | (refine Below.setCell ?_ (by first | (simp; done) | (simp; omega)) _))) hK hb1 hc1 (by have := HB.out.size; simp; omega)); replace HK := HK_; replace HB := HB_; clear HK_ HB_); clear tokp4 hF hK)
    | (go_at_call 24; have t_ := toka1; (refine (At (y := su6) (is := true) (by repeat (first | (with_reducible exact HK.out) | (with_reducible apply FileAt.alloc) | (with_reducible apply FileAt.drew))) okp5.v (by decide) (by decide) at1).mono ?_); go_must (rintro e w11 ⟨rfl, hb⟩; have HK_ := Aside0.mk (FileAt.below (by repeat (first | (with_reducible exact HK.out) | (with_reducible apply FileAt.alloc) | (with_reducible apply FileAt.drew))) hb); have HB_ := Aside0.mk (below_step (by repeat (first | (with_reducible first | exact HB.out | apply below_alloc | apply pw_below_drewN | apply below_drew1 | apply below_drew) | (refine Below.setCell ?_ (by first | (simp; done) | (simp; omega)) _))) hb); (try have HP_ := Aside0.mk (elAt_call (by repeat (first | (with_reducible exact HP.out) | (with_reducible apply ElAt.drew) | (with_reducible apply ElAt.alloc))) hb)); replace HK := HK_; replace HB := HB_; (try replace HP := HP_); clear HK_ HB_; (try clear HP_)); clear toka1 hb)
    | (go_at_call 25; go_must (refine (DelYes (by repeat (first | (with_reducible exact HK.out) | (with_reducible apply FileAt.alloc) | (with_reducible apply FileAt.drew))) okp5.v (by decide) get1).mono ?_); rw [del1]; go_must (rintro e w12 ⟨rfl, hF, hK⟩; have HK_ := Aside0.mk hF; have HB_ := Aside0.mk (K2.to_below (by repeat (first | (with_reducible first | exact HB.out | apply below_alloc | apply pw_below_drewN | apply below_drew1 | apply below_drew) | (refine Below.setCell ?_ (by first | (simp; done) | (simp; omega)) _))) hK hb1 hc1 (by have := HB.out.size; simp; omega)); have HP := Aside0.mk (show ElAt w12 w11.heap.size su6 from K2.block hK (elAt_new w11 su6) (Nat.ne_of_gt (HK.out.lt.1)) (Nat.ne_of_gt (HK.out.lt.2))); replace HK := HK_; replace HB := HB_; clear HK_ HB_); clear hF hK)
    | (go_at_call 24; (refine (At (y := z24) (is := false) (by repeat (first | (with_reducible exact HK.out) | (with_reducible apply FileAt.alloc) | (with_reducible apply FileAt.drew))) okp6.v (by decide) (by decide) at2).mono ?_); go_must (rintro e w13 ⟨rfl, hb⟩; have HK_ := Aside0.mk (FileAt.below (by repeat (first | (with_reducible exact HK.out) | (with_reducible apply FileAt.alloc) | (with_reducible apply FileAt.drew))) hb); have HB_ := Aside0.mk (below_step (by repeat (first | (with_reducible first | exact HB.out | apply below_alloc | apply pw_below_drewN | apply below_drew1 | apply below_drew) | (refine Below.setCell ?_ (by first | (simp; done) | (simp; omega)) _))) hb); (try have HP_ := Aside0.mk (elAt_call (by repeat (first | (with_reducible exact HP.out) | (with_reducible apply ElAt.drew) | (with_reducible apply ElAt.alloc))) hb)); replace HK := HK_; replace HB := HB_; (try replace HP := HP_); clear HK_ HB_; (try clear HP_)); clear hb)
    | (go_at_call 34; have t_ := tok5; (with_reducible refine (halyardlaw28_sub.calls ⟨#[117]⟩ 258 ⟨#[117]⟩ ⟨#[]⟩ ⟨#[112]⟩ 258 false _ hs5).mono ?_); go_must (rintro e w14 ⟨rfl, hb⟩; have HK_ := Aside0.mk (FileAt.below (by repeat (first | (with_reducible exact HK.out) | (with_reducible apply FileAt.alloc) | (with_reducible apply FileAt.drew))) hb); have HB_ := Aside0.mk (below_step (by repeat (first | (with_reducible first | exact HB.out | apply below_alloc | apply pw_below_drewN | apply below_drew1 | apply below_drew) | (refine Below.setCell ?_ (by first | (simp; done) | (simp; omega)) _))) hb); (try have HP_ := Aside0.mk (elAt_call (by repeat (first | (with_reducible exact HP.out) | (with_reducible apply ElAt.drew) | (with_reducible apply ElAt.alloc))) hb)); replace HK := HK_; replace HB := HB_; (try replace HP := HP_); clear HK_ HB_; (try clear HP_)); clear tok5 hb)
    | (go_at_call 10; go_must (refine (record_Bytes.calls _ _ _ _ _ (⟨#[1, 117, 0, 1, 112, 0, 0, 1, 2, 0]⟩ : ByteArray) 0 _ by1).mono ?_); go_must (rintro e w15 ⟨rfl, hb⟩; have HK_ := Aside0.mk (FileAt.below (by repeat (first | (with_reducible exact HK.out) | (with_reducible apply FileAt.alloc) | (with_reducible apply FileAt.drew))) hb); have HB_ := Aside0.mk (below_step (by repeat (first | (with_reducible first | exact HB.out | apply below_alloc | apply pw_below_drewN | apply below_drew1 | apply below_drew) | (refine Below.setCell ?_ (by first | (simp; done) | (simp; omega)) _))) hb); (try have HP_ := Aside0.mk (elAt_call (by repeat (first | (with_reducible exact HP.out) | (with_reducible apply ElAt.drew) | (with_reducible apply ElAt.alloc))) hb)); replace HK := HK_; replace HB := HB_; (try replace HP := HP_); clear HK_ HB_; (try clear HP_)); clear hb)
    | (go_at_call 12; go_must (refine readAt.mono ?_); go_must (rintro e w16 ⟨rfl, hb⟩; have HK_ := Aside0.mk (FileAt.below (by repeat (first | (with_reducible exact HK.out) | (with_reducible apply FileAt.alloc) | (with_reducible apply FileAt.drew))) hb); have HB_ := Aside0.mk (below_step (by repeat (first | (with_reducible first | exact HB.out | apply below_alloc | apply pw_below_drewN | apply below_drew1 | apply below_drew) | (refine Below.setCell ?_ (by first | (simp; done) | (simp; omega)) _))) hb); (try have HP_ := Aside0.mk (elAt_call (by repeat (first | (with_reducible exact HP.out) | (with_reducible apply ElAt.drew) | (with_reducible apply ElAt.alloc))) hb)); replace HK := HK_; replace HB := HB_; (try replace HP := HP_); clear HK_ HB_; (try clear HP_)); clear hb))
  have HR := Aside0.mk (elAt_new w16 su258)
  replace HP := Aside0.mk (HP.out.alloc (Obj.cells #[Value.string su258.f0, Value.string su258.f1, Value.string su258.f2, Value.int IntKind.u32 su258.f3, Value.bool su258.f4] 24))
  replace HB := Aside0.mk (HB.out.alloc HB.out.size (Obj.cells #[Value.string su258.f0, Value.string su258.f1, Value.string su258.f2, Value.int IntKind.u32 su258.f3, Value.bool su258.f4] 24))
  have hS := s10 HP.out HR.out
  clear HK
  go_region_held3 (fun w' => w'.cell? ⟨w11.heap.size, 0, none⟩ = some (.string ⟨#[117]⟩) ∧ w'.cell? ⟨w11.heap.size, 1, none⟩ = some (.string ⟨#[]⟩) ∧ w'.cell? ⟨w11.heap.size, 2, none⟩ = some (.string ⟨#[112]⟩) ∧ w'.cell? ⟨w11.heap.size, 3, none⟩ = some (.int .u32 6) ∧ w'.cell? ⟨w11.heap.size, 4, none⟩ = some (.bool false) ∧ w'.cell? ⟨w16.heap.size, 0, none⟩ = some (.string ⟨#[117]⟩) ∧ w'.cell? ⟨w16.heap.size, 1, none⟩ = some (.string ⟨#[]⟩) ∧ w'.cell? ⟨w16.heap.size, 2, none⟩ = some (.string ⟨#[112]⟩) ∧ w'.cell? ⟨w16.heap.size, 3, none⟩ = some (.int .u32 258) ∧ w'.cell? ⟨w16.heap.size, 4, none⟩ = some (.bool false)) (first | (with_reducible exact hSw20) | (with_reducible exact hSw19) | (with_reducible exact hSw18) | (with_reducible exact hSw17) | exact hS | go_keep)
    (first
      | (go_at_call 34; (with_reducible refine (halyardlaw28_sub.calls ⟨#[117]⟩ 6 ⟨#[117]⟩ ⟨#[]⟩ ⟨#[112]⟩ 6 false _ hs3).mono ?_); (rintro e w17 ⟨rfl, hb'⟩; have hb := Bl.of hb'; have HP_ := Aside0.mk (elAt_bl HP.out hb); have HR_ := Aside0.mk (elAt_bl HR.out hb); have HB_ := Aside0.mk (below_bl HB.out hb); replace HP := HP_; replace HR := HR_; replace HB := HB_; clear HP_ HR_ HB_; have hSw17 := s10 HP.out HR.out); clear hb hb')
      | (go_at_call 34; (with_reducible refine (halyardlaw28_sub.calls ⟨#[117]⟩ 258 ⟨#[117]⟩ ⟨#[]⟩ ⟨#[112]⟩ 258 false _ hs5).mono ?_); (rintro e w18 ⟨rfl, hb'⟩; have hb := Bl.of hb'; have HP_ := Aside0.mk (elAt_bl HP.out hb); have HR_ := Aside0.mk (elAt_bl HR.out hb); have HB_ := Aside0.mk (below_bl HB.out hb); replace HP := HP_; replace HR := HR_; replace HB := HB_; clear HP_ HR_ HB_; have hSw18 := s10 HP.out HR.out); clear hb hb')
      | (go_at_call 34; (with_reducible refine (halyardlaw28_sub.calls ⟨#[117]⟩ 0 ⟨#[117]⟩ ⟨#[]⟩ ⟨#[112]⟩ 0 false _ hs0).mono ?_); (rintro e w19 ⟨rfl, hb'⟩; have hb := Bl.of hb'; have HP_ := Aside0.mk (elAt_bl HP.out hb); have HR_ := Aside0.mk (elAt_bl HR.out hb); have HB_ := Aside0.mk (below_bl HB.out hb); replace HP := HP_; replace HR := HR_; replace HB := HB_; clear HP_ HR_ HB_; have hSw19 := s10 HP.out HR.out); clear hb hb')
      | (go_at_call 29; (refine (record_Check.calls _ _ _ _ _ 2 _ hck).mono ?_); (rintro e w20 ⟨rfl, hb'⟩; have hb := Bl.of hb'; have HP_ := Aside0.mk (elAt_bl HP.out hb); have HR_ := Aside0.mk (elAt_bl HR.out hb); have HB_ := Aside0.mk (below_bl HB.out hb); replace HP := HP_; replace HR := HR_; replace HB := HB_; clear HP_ HR_ HB_; have hSw20 := s10 HP.out HR.out); clear hb hb'))
  all_goals
    go_wp2_with fail
    go_ret
    exact ⟨rfl, HB.out⟩
end Go.Proofs.YtmgpaccgjafjeaaHVR
