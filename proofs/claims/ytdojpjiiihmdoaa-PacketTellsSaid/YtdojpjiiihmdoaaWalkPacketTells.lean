/- The walk of the law halyard/halyardlaw07.PacketTells: the call returns true, whatever the input; no condition. -/
import Derived.Test.YtdojpjiiihmdoaaPG07x0
import Derived.Test.YtdojpjiiihmdoaaPG07x1
import Derived.Test.YtdojpjiiihmdoaaPG07x2
import Derived.Test.YtdojpjiiihmdoaaPG07x3
import Derived.Test.YtdojpjiiihmdoaaPG07x4
import Derived.Test.YtdojpjiiihmdoaaPG07x5
import Derived.Test.YtdojpjiiihmdoaaPG07x6
import Derived.Test.YtdojpjiiihmdoaaHW
namespace Go.Proofs.Ytdojpjiiihmdoaa.PG07
open Go.RowKit Go.Proofs.YtdojpjiiihmdoaaW.PrintWords Go.Proofs.YtdojpjiiihmdoaaW.PrintLast Go.Proofs.YtdojpjiiihmdoaaW.PrintMore Go.Proofs.YtdojpjiiihmdoaaHW
attribute [local go_sem] max2_int min2_int max_two min_two max_three min_three max_four min_four
set_option linter.unusedVariables false
set_option linter.unusedSimpArgs false
theorem halyardlaw07_PacketTells.put_eq (x y : Int) (s : ByteArray) (hs : s.size ≤ 16384) : ∃ r1 r2, packet_Put.f x y s = some (r1, r2) ∧ halyardref07_Put.f x y s = some (r1, r2) := by
  unfold packet_Put.f halyardref07_Put.f
  by_cases c : (s.size : Int) > 1496
  · rw [if_pos c, if_pos c]; exact ⟨_, _, rfl, rfl⟩
  · rw [if_neg c, if_neg c]
    have e : wrap64 (4 + (s.size : Int)) = (s.size : Int) + 4 := by unfold wrap64; omega
    rw [e, show Int.tdiv ((s.size : Int) + 4) 256 = ((s.size : Int) + 4) / 256 from Int.tdiv_eq_ediv_of_nonneg (by omega), show Int.tmod ((s.size : Int) + 4) 256 = ((s.size : Int) + 4) % 256 from Int.tmod_eq_emod_of_nonneg (by omega)]
    rw [show wrap64 (((s.size : Int) + 4) / 256) = ((s.size : Int) + 4) / 256 from by unfold wrap64; omega, show ((s.size : Int) + 4) / 256 % 256 = ((s.size : Int) + 4) / 256 from by omega, show ((s.size : Int) + 4) % 256 % 256 = ((s.size : Int) + 4) % 256 from by omega]
    simp only [Option.bind_some]
    rw [if_pos (by rw [hw_strs]; simp only [List.length_cons, List.length_nil]; omega)]
    exact ⟨_, _, rfl, rfl⟩
theorem halyardlaw07_PacketTells.get_eq (s : ByteArray) (hs : s.size ≤ 16384) : ∃ r1 r2 r3 r4 r5, packet_Get.f s = some (r1, r2, r3, r4, r5) ∧ halyardref07_Get.f s = some (r1, r2, r3, r4, r5) := by
  have b2 := bt_range s 2
  have b3 := bt_range s 3
  have e : wrap64 (wrap64 (256 * wrap64 (bt s 2)) + wrap64 (bt s 3)) = 256 * bt s 2 + bt s 3 := by unfold wrap64; generalize bt s 2 = x at *; generalize bt s 3 = y at *; omega
  unfold packet_Get.f halyardref07_Get.f
  rw [e]
  clear e
  generalize 256 * bt s 2 + bt s 3 = n
  by_cases c1 : (s.size : Int) < 4
  · repeat (first | rw [if_pos (by omega)] | rw [if_neg (by omega)])
    exact ⟨_, _, _, _, _, rfl, rfl⟩
  by_cases c2 : n < 4
  · repeat (first | rw [if_pos (by omega)] | rw [if_neg (by omega)])
    exact ⟨_, _, _, _, _, rfl, rfl⟩
  by_cases c3 : n > (s.size : Int)
  · repeat (first | rw [if_pos (by omega)] | rw [if_neg (by omega)])
    exact ⟨_, _, _, _, _, rfl, rfl⟩
  by_cases c4 : n > 1500
  all_goals
    repeat (first | rw [if_pos (by omega)] | rw [if_neg (by omega)])
    exact ⟨_, _, _, _, _, rfl, rfl⟩
theorem halyardlaw07_PacketTells.trim_eq (s : ByteArray) (n : Int) : ∃ r1 r2, packet_Trim.f s n = some (r1, r2) ∧ halyardref07_Trim.f s n = some (r1, r2) := by
  refine (?_ : ∃ r1 r2, packet_Trim.f s n = some (r1, r2) ∧ packet_Trim.f s n = some (r1, r2))
  unfold packet_Trim.f
  by_cases c : n < 0
  · rw [if_pos c]; exact ⟨_, _, rfl, rfl⟩
  · rw [if_neg c, if_pos (by unfold mn; omega), if_pos (by unfold mn; omega)]; exact ⟨_, _, rfl, rfl⟩
theorem halyardlaw07_PacketTells.known_eq (p c : Int) : ∃ r, packet_Known.f p c = some r ∧ halyardref07_Known.f p c = some r := by
  refine (?_ : ∃ r, packet_Known.f p c = some r ∧ packet_Known.f p c = some r)
  unfold packet_Known.f
  repeat' split
  all_goals exact ⟨_, rfl, rfl⟩
set_option maxRecDepth 100000 in
set_option maxHeartbeats 1000000 in
theorem halyardlaw07_PacketTells.run (a0_0 a0_1 : Int) (a0_2 : ByteArray) (a1 : ByteArray) (a2 a3 a4 : Int) (w : World) (_f0 : 0 ≤ a0_0) (_f1 : a0_0 ≤ 255) (_f2 : 0 ≤ a0_1) (_f3 : a0_1 ≤ 255) (_w0 : a0_2.size ≤ 140737488351232) (_z1 : a1.size ≤ 140737488351232)
    (_g0 : 0 ≤ a2) (_g1 : a2 ≤ 65535) (_g2 : 0 ≤ a3) (_g3 : a3 ≤ 255) (_g4 : -9223372036854775808 ≤ a4) (_g5 : a4 ≤ 9223372036854775807) :
    Calls Try.prog 6 #[.agg #[.int .u8 a0_0, .int .u8 a0_1, .string a0_2], .string a1, .int .u16 a2, .int .u8 a3, .int .i64 a4] w fun e w' => e = .returned (.bool true) ∧ Below w.heap.size w w' := by
  have huP := Try.underlying23
  have HB := Aside0.mk (Below.refl w.heap.size w)
  clear _g4 _g5
  have hw : wrap64 ((a0_2.size : Int) + (a1.size : Int)) = (a0_2.size : Int) + (a1.size : Int) := by unfold wrap64; omega
  by_cases c1 : (a0_2.size : Int) + (a1.size : Int) ≤ 16384
  · obtain ⟨p1, p2, h1, h2⟩ := halyardlaw07_PacketTells.put_eq a0_0 a0_1 a0_2 (by omega)
    obtain ⟨g1, g2, g3, g4, g5, h3, h4⟩ := halyardlaw07_PacketTells.get_eq a1 (by omega)
    obtain ⟨t1, t2, h5, h6⟩ := halyardlaw07_PacketTells.trim_eq a1 a4
    obtain ⟨n1, h7, h8⟩ := halyardlaw07_PacketTells.known_eq a2 a3
    have H1 := Aside0.mk h1
    have H2 := Aside0.mk h2
    have H3 := Aside0.mk h3
    have H4 := Aside0.mk h4
    have H5 := Aside0.mk h5
    have H6 := Aside0.mk h6
    have H7 := Aside0.mk h7
    have H8 := Aside0.mk h8
    clear h1 h2 h3 h4 h5 h6 h7 h8
    go_enter Try.func6, Try.ntmps6
    go_wp2_with (first | (go_at_call 15; (with_reducible refine (packet_Put.calls _ _ _ _ _ _ H1.out).mono ?_); rintro e w1 ⟨rfl, hb1⟩; have n_ := Aside0.mk (show w1.heap[w.heap.size]? = some (.cells #[.int .u8 a0_0, .int .u8 a0_1, .string a0_2] 23 (0, 0)) from hw_below (by repeat (first | exact BKp.out | exact blk_new _ _ | exact hw_at (by simp) _ | refine blk_drewN ?_ _ | refine blk_drew ?_ | refine blk_alloc ?_ _)) hb1); have BKp := n_; clear n_; have kp0 := blk_cell BKp.out 0; have kp1 := blk_cell BKp.out 1; have kp2 := blk_cell BKp.out 2; (try simp only [List.getElem?_toArray, List.getElem?_cons_zero, List.getElem?_cons_succ] at kp0 kp1 kp2); replace HB := Aside0.mk (below_step (by repeat (first | (with_reducible first | exact HB.out | apply below_alloc | apply pw_below_drewN | apply below_drew1 | apply below_drew) | (refine Below.setCell ?_ (by simp; omega) _))) hb1); clear hb1) | (go_at_call 18; (with_reducible refine (halyardref07_Put.calls _ _ _ _ _ _ H2.out).mono ?_); rintro e w2 ⟨rfl, hb2⟩; have n_ := Aside0.mk (show w2.heap[w.heap.size]? = some (.cells #[.int .u8 a0_0, .int .u8 a0_1, .string a0_2] 23 (0, 0)) from hw_below (by repeat (first | exact BKp.out | exact blk_new _ _ | exact hw_at (by simp) _ | refine blk_drewN ?_ _ | refine blk_drew ?_ | refine blk_alloc ?_ _)) hb2); clear BKp; have BKp := n_; clear n_; clear kp0; have kp0 := blk_cell BKp.out 0; clear kp1; have kp1 := blk_cell BKp.out 1; clear kp2; have kp2 := blk_cell BKp.out 2; (try simp only [List.getElem?_toArray, List.getElem?_cons_zero, List.getElem?_cons_succ] at kp0 kp1 kp2); replace HB := Aside0.mk (below_step (by repeat (first | (with_reducible first | exact HB.out | apply below_alloc | apply pw_below_drewN | apply below_drew1 | apply below_drew) | (refine Below.setCell ?_ (by simp; omega) _))) hb2); clear hb2) | (go_at_call 16; (with_reducible refine (packet_Get.calls _ _ _ _ _ _ _ H3.out).mono ?_); rintro e w3 ⟨rfl, hb3⟩; replace HB := Aside0.mk (below_step (by repeat (first | (with_reducible first | exact HB.out | apply below_alloc | apply pw_below_drewN | apply below_drew1 | apply below_drew) | (refine Below.setCell ?_ (by simp; omega) _))) hb3); clear hb3) | (go_at_call 19; (with_reducible refine (halyardref07_Get.calls _ _ _ _ _ _ _ H4.out).mono ?_); rintro e w4 ⟨rfl, hb4⟩; have n_ := Aside0.mk (show w4.heap[w3.heap.size]? = some (.cells #[.int .u8 g1, .int .u8 g2, .string g3] 23 (0, 0)) from hw_below (by repeat (first | exact BKx.out | exact blk_new _ _ | exact hw_at (by simp) _ | refine blk_drewN ?_ _ | refine blk_drew ?_ | refine blk_alloc ?_ _)) hb4); have BKx := n_; clear n_; have kx0 := blk_cell BKx.out 0; have kx1 := blk_cell BKx.out 1; have kx2 := blk_cell BKx.out 2; (try simp only [List.getElem?_toArray, List.getElem?_cons_zero, List.getElem?_cons_succ] at kx0 kx1 kx2); replace HB := Aside0.mk (below_step (by repeat (first | (with_reducible first | exact HB.out | apply below_alloc | apply pw_below_drewN | apply below_drew1 | apply below_drew) | (refine Below.setCell ?_ (by simp; omega) _))) hb4); clear hb4) | (go_at_call 17; (with_reducible refine (packet_Trim.calls _ _ _ _ _ H5.out).mono ?_); rintro e w5 ⟨rfl, hb5⟩; have n_ := Aside0.mk (show w5.heap[w3.heap.size]? = some (.cells #[.int .u8 g1, .int .u8 g2, .string g3] 23 (0, 0)) from hw_below (by repeat (first | exact BKx.out | exact blk_new _ _ | exact hw_at (by simp) _ | refine blk_drewN ?_ _ | refine blk_drew ?_ | refine blk_alloc ?_ _)) hb5); clear BKx; have BKx := n_; clear n_; clear kx0; have kx0 := blk_cell BKx.out 0; clear kx1; have kx1 := blk_cell BKx.out 1; clear kx2; have kx2 := blk_cell BKx.out 2; (try simp only [List.getElem?_toArray, List.getElem?_cons_zero, List.getElem?_cons_succ] at kx0 kx1 kx2); have n_ := Aside0.mk (show w5.heap[w4.heap.size]? = some (.cells #[.int .u8 g1, .int .u8 g2, .string g3] 23 (0, 0)) from hw_below (by repeat (first | exact BKy.out | exact blk_new _ _ | exact hw_at (by simp) _ | refine blk_drewN ?_ _ | refine blk_drew ?_ | refine blk_alloc ?_ _)) hb5); have BKy := n_; clear n_; have ky0 := blk_cell BKy.out 0; have ky1 := blk_cell BKy.out 1; have ky2 := blk_cell BKy.out 2; (try simp only [List.getElem?_toArray, List.getElem?_cons_zero, List.getElem?_cons_succ] at ky0 ky1 ky2); replace HB := Aside0.mk (below_step (by repeat (first | (with_reducible first | exact HB.out | apply below_alloc | apply pw_below_drewN | apply below_drew1 | apply below_drew) | (refine Below.setCell ?_ (by simp; omega) _))) hb5); clear hb5) | (go_at_call 20; (with_reducible refine (halyardref07_Trim.calls _ _ _ _ _ H6.out).mono ?_); rintro e w6 ⟨rfl, hb6⟩; have n_ := Aside0.mk (show w6.heap[w3.heap.size]? = some (.cells #[.int .u8 g1, .int .u8 g2, .string g3] 23 (0, 0)) from hw_below (by repeat (first | exact BKx.out | exact blk_new _ _ | exact hw_at (by simp) _ | refine blk_drewN ?_ _ | refine blk_drew ?_ | refine blk_alloc ?_ _)) hb6); clear BKx; have BKx := n_; clear n_; clear kx0; have kx0 := blk_cell BKx.out 0; clear kx1; have kx1 := blk_cell BKx.out 1; clear kx2; have kx2 := blk_cell BKx.out 2; (try simp only [List.getElem?_toArray, List.getElem?_cons_zero, List.getElem?_cons_succ] at kx0 kx1 kx2); have n_ := Aside0.mk (show w6.heap[w4.heap.size]? = some (.cells #[.int .u8 g1, .int .u8 g2, .string g3] 23 (0, 0)) from hw_below (by repeat (first | exact BKy.out | exact blk_new _ _ | exact hw_at (by simp) _ | refine blk_drewN ?_ _ | refine blk_drew ?_ | refine blk_alloc ?_ _)) hb6); clear BKy; have BKy := n_; clear n_; clear ky0; have ky0 := blk_cell BKy.out 0; clear ky1; have ky1 := blk_cell BKy.out 1; clear ky2; have ky2 := blk_cell BKy.out 2; (try simp only [List.getElem?_toArray, List.getElem?_cons_zero, List.getElem?_cons_succ] at ky0 ky1 ky2); replace HB := Aside0.mk (below_step (by repeat (first | (with_reducible first | exact HB.out | apply below_alloc | apply pw_below_drewN | apply below_drew1 | apply below_drew) | (refine Below.setCell ?_ (by simp; omega) _))) hb6); clear hb6) | (go_at_call 21; (with_reducible refine (packet_Known.calls _ _ _ _ H7.out).mono ?_); rintro e w7 ⟨rfl, ⟨nd7, rfl⟩⟩) | (go_at_call 22; (with_reducible refine (halyardref07_Known.calls _ _ _ _ H8.out).mono ?_); rintro e w8 ⟨rfl, ⟨nd8, rfl⟩⟩) | (go_at_call 14; (with_reducible refine (halyardlaw07_alive.calls _ _ rfl).mono ?_); rintro e w9 ⟨rfl, hb9⟩; have n_ := Aside0.mk (show w9.heap[w3.heap.size]? = some (.cells #[.int .u8 g1, .int .u8 g2, .string g3] 23 (0, 0)) from hw_below (by repeat (first | exact BKx.out | exact blk_new _ _ | exact hw_at (by simp) _ | refine blk_drewN ?_ _ | refine blk_drew ?_ | refine blk_alloc ?_ _)) hb9); clear BKx; have BKx := n_; clear n_; clear kx0; have kx0 := blk_cell BKx.out 0; clear kx1; have kx1 := blk_cell BKx.out 1; clear kx2; have kx2 := blk_cell BKx.out 2; (try simp only [List.getElem?_toArray, List.getElem?_cons_zero, List.getElem?_cons_succ] at kx0 kx1 kx2); have n_ := Aside0.mk (show w9.heap[w4.heap.size]? = some (.cells #[.int .u8 g1, .int .u8 g2, .string g3] 23 (0, 0)) from hw_below (by repeat (first | exact BKy.out | exact blk_new _ _ | exact hw_at (by simp) _ | refine blk_drewN ?_ _ | refine blk_drew ?_ | refine blk_alloc ?_ _)) hb9); clear BKy; have BKy := n_; clear n_; clear ky0; have ky0 := blk_cell BKy.out 0; clear ky1; have ky1 := blk_cell BKy.out 1; clear ky2; have ky2 := blk_cell BKy.out 2; (try simp only [List.getElem?_toArray, List.getElem?_cons_zero, List.getElem?_cons_succ] at ky0 ky1 ky2); replace HB := Aside0.mk (below_step (by repeat (first | (with_reducible first | exact HB.out | apply below_alloc | apply pw_below_drewN | apply below_drew1 | apply below_drew) | (refine Below.setCell ?_ (by simp; omega) _))) hb9); clear hb9))
    go_ret
    exact ⟨rfl, by repeat (first | (with_reducible first | exact HB.out | apply below_alloc | apply pw_below_drewN | apply below_drew1 | apply below_drew) | (refine Below.setCell ?_ (by simp; omega) _))⟩
  · have c1' : 16384 < (a0_2.size : Int) + (a1.size : Int) := by omega
    clear c1
    go_enter Try.func6, Try.ntmps6
    go_wp2_with ((go_at_call 14; (with_reducible refine (halyardlaw07_alive.calls _ _  rfl).mono ?_); rintro e w9 ⟨rfl, hb9⟩))
    go_ret
    exact ⟨rfl, below_step (below_alloc HB.out _) hb9⟩

end Go.Proofs.Ytdojpjiiihmdoaa.PG07
