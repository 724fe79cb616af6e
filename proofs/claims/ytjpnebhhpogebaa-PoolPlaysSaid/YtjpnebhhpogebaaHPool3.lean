import Derived.Test.YtjpnebhhpogebaaHPool2
import Derived.Test.YtjpnebhhpogebaaWMore
import Derived.Test.YtjpnebhhpogebaaWLast
namespace Go.Proofs.YtjpnebhhpogebaaHPool
open Go.RowKit Go.Proofs.YtjpnebhhpogebaaW.PrintWords Go.Proofs.YtjpnebhhpogebaaHW Go.Proofs.YtjpnebhhpogebaaHG
set_option linter.unusedVariables false
set_option linter.unusedSimpArgs false
theorem infoLease : (Try.prog.info? 62).map (fun i => (i.zero, i.size, i.bytes)) = some (some (.agg #[.int .u32 0, .string ⟨#[]⟩]), 2, 24) := by kernel_rfl
def leaseCells (ls : List (Int × ByteArray)) : List Value := ls.flatMap fun p => [.int .u32 p.1, .string p.2]
theorem leaseCells_snoc (ls : List (Int × ByteArray)) (a : Int) (s : ByteArray) : leaseCells (ls ++ [(a, s)]) = leaseCells ls ++ [.int .u32 a, .string s] := by simp [leaseCells]
/-- The rows that are collected, in the box G. -/
def OutAt (B G : Nat) (w : World) (ls : List (Int × ByteArray)) : Prop :=
  ∃ v, w.heap[G]? = some (.cells #[v] 34 (0, 0)) ∧ w.ownsRow B 62 2 v ls.length (leaseCells ls) ∧ v.ownBlock ≠ some G
theorem OutAt.below {B G : Nat} {w w1 : World} {ls : List (Int × ByteArray)} (h : OutAt B G w ls) (hb : Below w.heap.size w w1) : OutAt B G w1 ls := by
  obtain ⟨v, h1, h2, h3⟩ := h
  exact ⟨v, hw_below h1 hb, pw_own_below h2 hb, h3⟩
theorem own_slice {w : World} {B e size n : Nat} {v : Value} {xs : List Value} (h : w.ownsRow B e size v n xs) : ∃ ad cap, v = .slice ad n cap := by
  rcases h.2 with ⟨hv, hn⟩ | ⟨g, cap, cur, hv, _⟩
  · exact ⟨none, 0, by rw [hv, hn]⟩
  · exact ⟨_, _, hv⟩
def List1Post (B G : Nat) (w : World) (ls : List (Int × ByteArray)) (w' : World) : Prop := OutAt B G w' ls ∧ Below B w w'
set_option maxRecDepth 100000 in
set_option maxHeartbeats 1000000 in
theorem List1Free (a : Int) (s : ByteArray) (G : Nat) (w : World) :
    Calls Try.prog 26 #[.int .u32 a, .agg #[.string s], .bool false, .pointer (some ⟨G, 0, none⟩)] w fun e w' => e = .returned (.bool true) ∧ Below w.heap.size w w' := by
  have huO := Try.underlying58
  have HB := Aside0.mk (Below.refl w.heap.size w)
  go_enter Try.func26, Try.ntmps26
  go_wp2_with fail
  go_ret
  exact ⟨rfl, by repeat (first | (with_reducible first | exact HB.out | apply below_alloc))⟩
set_option maxRecDepth 100000 in
set_option maxHeartbeats 1000000 in
theorem List1Taken (a : Int) (s : ByteArray) (G B : Nat) (ls : List (Int × ByteArray)) (w : World) (h : OutAt B G w ls) (hB : B ≤ G) (hl : ls.length ≤ 100000) :
    Calls Try.prog 26 #[.int .u32 a, .agg #[.string s], .bool true, .pointer (some ⟨G, 0, none⟩)] w fun e w' => e = .returned (.bool true) ∧ List1Post B G w (ls ++ [(a, s)]) w' := by
  have huO := Try.underlying58
  have huL := Try.underlying62
  obtain ⟨v, h1, h2, h3⟩ := h
  have zg := blk_lt h1
  have k0 := blk_cell h1 0
  have f0 := blk_frozen h1 0
  simp only [List.getElem?_toArray, List.getElem?_cons_zero] at k0
  have H1 := Aside0.mk h1
  have H2 := Aside0.mk h2
  have H3 := Aside0.mk h3
  clear h1 h2 h3
  go_enter Try.func26, Try.ntmps26
  go_wp2_with (at_builtin; go_must (refine print_append_cells (w0 := w) B rfl (.tmp 9) (.tmp 14) 34 62 (.agg #[.int .u32 0, .string ⟨#[]⟩]) 2 24 rfl Try.underlying34 infoLease rfl (by decide) (by decide) v ls.length (leaseCells ls) [.int .u32 a, .string s] rfl ?hx rfl ?a1 (H2.out.alloc _) ?a2 ?a3 (by omega) ?_); (case hx => first | rfl | (go_simp; done) | (go_simp; rfl) | (simp; done)); (case a1 => intro u hu; simp at hu; rcases hu with rfl | rfl <;> rfl); (case a2 => exact (Below.refl B w).alloc (by omega) _); (case a3 => simp; omega); intro v1 w2 hown hb2 hg2 hat; go_must (obtain ⟨ad, cap, rfl⟩ := own_slice hown; have q0 := hg2.block G (by simp; omega) (fun e => H3.out e.symm); have Q := Aside0.mk (q0.trans (blk_alloc H1.out _)); clear q0 k0 f0; have k0 := blk_cell Q.out 0; have f0 := blk_frozen Q.out 0; have zq := blk_lt Q.out; simp only [List.getElem?_toArray, List.getElem?_cons_zero] at k0; have HO2 := Aside0.mk hown; have HB2 := Aside0.mk hb2; have HAT := Aside0.mk hat; clear hown hb2 hg2 hat))
  go_ret
  have hne : (Value.slice ad (ls.length + 1) cap).ownBlock ≠ some G := by
    rcases HAT.out with e | ⟨b, e, hb⟩
    · rw [e]; exact H3.out
    · rw [e]; intro h; have h' := Option.some.inj h; simp at hb; omega
  refine ⟨rfl, ⟨_, (blk_set Q.out 0 _).trans rfl, ?_, hne⟩, HB2.out.setCell (p := ⟨G, 0, none⟩) hB _⟩
  rw [leaseCells_snoc, List.length_append]
  exact own_setCell HO2.out (fun e => hne e.symm) _
def leases (base : Int) (M : Int → Option ByteArray) : Nat → List (Int × ByteArray)
  | 0 => []
  | k + 1 => leases base M k ++ (match M (base + k) with | some s => [(base + k, s)] | none => [])
theorem leases_len (base : Int) (M : Int → Option ByteArray) : ∀ k, (leases base M k).length = cnt base M k
  | 0 => rfl
  | k + 1 => by
    simp only [leases, cnt, List.length_append, leases_len base M k]
    cases M (base + k) <;> simp
theorem PoolAt.low {B : Nat} {w w' : World} {g b : Nat} {base n : Int} {M : Int → Option ByteArray} {c : Nat} (h : PoolAt w g b base n M c) (hb : Below B w w') (hg : g < B) (hbb : b < B) : PoolAt w' g b base n M c :=
  ⟨(hb.block g hg).trans h.1, h.2.1.heap (hb.block b hbb), h.2.2⟩
set_option maxRecDepth 100000 in
set_option maxHeartbeats 1000000 in
theorem eachList (g b : Nat) (base n : Int) (M : Int → Option ByteArray) (c : Nat) (G B : Nat) (w : World) (h : PoolAt w g b base n M c) (hv : Valid base n M c) (ho : OutAt B G w []) (hB : B ≤ G) (hBw : B ≤ w.heap.size) (hg : g < B) (hbb : b < B) :
    Calls Try.prog 24 #[.pointer (some ⟨g, 0, none⟩), .func (.func 26) #[] #[.pointer (some ⟨G, 0, none⟩)]] w fun e w' => e = .returned (.tuple #[]) ∧ List1Post B G w (leases base M n.toNat) w' := by
  have n1 := hv.n1
  have n2 := hv.n2
  have b1 := hv.b1
  have b2 := hv.b2
  have k0 := blk_cell h.1 0
  have k1 := blk_cell h.1 1
  have k2 := blk_cell h.1 2
  simp only [List.getElem?_toArray, List.getElem?_cons_zero, List.getElem?_cons_succ] at k0 k1 k2
  have HP := Aside0.mk h
  have HO := Aside0.mk ho
  have huO := Try.underlying58
  clear h hv ho
  go_enter Try.func24, Try.ntmps24
  go_wp2_with fail
  clear k0 k1 k2
  go_loopw [12] (fun v12 wr => ∃ k : Nat, (k : Int) ≤ n ∧ v12 = .int .i64 (k : Int) ∧ Aside0 (OutAt B G wr (leases base M k)) ∧ Aside0 (Below B w wr)) (fun v12 _ => (n - intOf v12).toNat)
  case atStart => exact ⟨0, by omega, rfl, HO, ⟨Below.refl _ _⟩⟩
  case round =>
    obtain ⟨k, hk, rfl, R1, HK⟩ := hrel
    by_cases hlt : (k : Int) < n
    · have P1 := HP.out.low HK.out hg hbb
      have hsz := HK.out.size
      have k0 := blk_cell P1.1 0
      have k1 := blk_cell P1.1 1
      have k2 := blk_cell P1.1 2
      simp only [List.getElem?_toArray, List.getElem?_cons_zero, List.getElem?_cons_succ] at k0 k1 k2
      have HM := Aside0.mk P1.2.1
      have s1 : IntKind.u32.wrap (k : Int) = k := by rw [IntKind.wrap_u32]; omega
      have s2 : IntKind.u32.wrap (base + (k : Int)) = base + k := by rw [IntKind.wrap_u32]; omega
      have a0 : 0 ≤ base + (k : Int) := by omega
      have a1 : base + (k : Int) < 4294967296 := by omega
      have E := Aside0.mk (look32 M (base + k))
      have hll : (leases base M k).length ≤ 100000 := by rw [leases_len]; have := cnt_le base M k; omega
      have HLL := Aside0.mk hll
      clear P1 hll
      cases hM : M (base + (k : Int)) with
      | some s =>
        have HS := Aside0.mk (show (M (base + (k : Int))).isSome = true by rw [hM]; rfl)
        have HD := Aside0.mk (show (M (base + (k : Int))).getD ⟨#[]⟩ = s by rw [hM]; rfl)
        have HL := Aside0.mk (show leases base M (k + 1) = leases base M k ++ [(base + (k : Int), s)] by simp only [leases]; rw [hM])
        clear hM
        go_wp2_with (first | (refine wp_lookup2 _ rfl _ _ 53 rfl 22 58 law32 Try.underlying53 _ (zeroOwner _) b c _ rfl (by repeat (first | exact HM.out | apply MapIs.alloc | apply MapIs.drewN | apply MapIs.drew)) _ (.int .u32 (base + (k : Int))) rfl (key32 (base + k) a0 a1) trivial ?_; rw [E.out.1, E.out.2, HS.out, HD.out]) | (go_at_call 26; refine (List1Taken _ s G B (leases base M k) _ (R1.out.below (below_alloc (Below.refl _ _) _)) hB HLL.out).mono ?_; rintro e w1 ⟨rfl, hp⟩; have HO1 := Aside0.mk hp.1; have HK1 := Aside0.mk ((HK.out.alloc (by omega) _).trans hp.2); clear hp))
        go_roundw
        case rel => exact ⟨k + 1, by omega, by go_num, ⟨by rw [HL.out]; exact HO1.out⟩, HK1⟩
        case measure => simp [intOf]; omega
      | none =>
        have HS := Aside0.mk (show (M (base + (k : Int))).isSome = false by rw [hM]; rfl)
        have HD := Aside0.mk (show (M (base + (k : Int))).getD ⟨#[]⟩ = ⟨#[]⟩ by rw [hM]; rfl)
        have HL := Aside0.mk (show leases base M (k + 1) = leases base M k by simp only [leases]; rw [hM]; simp)
        clear hM
        go_wp2_with (first | (refine wp_lookup2 _ rfl _ _ 53 rfl 22 58 law32 Try.underlying53 _ (zeroOwner _) b c _ rfl (by repeat (first | exact HM.out | apply MapIs.alloc | apply MapIs.drewN | apply MapIs.drew)) _ (.int .u32 (base + (k : Int))) rfl (key32 (base + k) a0 a1) trivial ?_; rw [E.out.1, E.out.2, HS.out, HD.out]) | (go_at_call 26; refine (List1Free _ _ G _).mono ?_; rintro e w1 ⟨rfl, hb1⟩; have HO1 := Aside0.mk ((R1.out.below (below_alloc (Below.refl _ _) _)).below hb1); have HK1 := Aside0.mk ((HK.out.alloc (by omega) _).trans (hb1.mono (by simp; omega))); clear hb1))
        go_roundw
        case rel => exact ⟨k + 1, by omega, by go_num, ⟨by rw [HL.out]; exact HO1.out⟩, HK1⟩
        case measure => simp [intOf]; omega
    · have HE := Aside0.mk (show n.toNat = k by omega)
      go_wp2_with fail
      go_end0
      exact ⟨rfl, by rw [HE.out]; exact R1.out, HK.out⟩
def ListRet (base n : Int) (M : Int → Option ByteArray) (w : World) (e : Ending) (w' : World) : Prop := ∃ ad cap, e = .returned (.slice ad (leases base M n.toNat).length cap) ∧ w'.ownsRow w.heap.size 62 2 (.slice ad (leases base M n.toNat).length cap) (leases base M n.toNat).length (leaseCells (leases base M n.toNat)) ∧ Below w.heap.size w w'
set_option maxRecDepth 100000 in
set_option maxHeartbeats 1000000 in
theorem List_ (g b : Nat) (base n : Int) (M : Int → Option ByteArray) (c : Nat) (w : World) (h : PoolAt w g b base n M c) (hv : Valid base n M c) :
    Calls Try.prog 11 #[.pointer (some ⟨g, 0, none⟩)] w (ListRet base n M w) := by
  have HP := Aside0.mk h
  have HV := Aside0.mk hv
  have zg := blk_lt h.1
  have zb := h.2.1.lt
  have HB := Aside0.mk (Below.refl w.heap.size w)
  clear h hv
  go_enter Try.func11, Try.ntmps11
  go_wp2_with (go_at_call 24; refine (eachList g b base n M c w.heap.size w.heap.size _ (HP.out.kb (below_alloc HB.out _)) HV.out ⟨_, blk_new w _, own_nil _ _ _ _, by simp [Value.ownBlock]⟩ (Nat.le_refl _) (by simp) zg zb).mono ?_; rintro e w1 ⟨rfl, hp⟩; obtain ⟨⟨v, q1, q2, q3⟩, hk⟩ := hp; obtain ⟨ad, cap, rfl⟩ := own_slice q2; have Q1 := Aside0.mk q1; have Q2 := Aside0.mk q2; have Q3 := Aside0.mk q3; have HK := Aside0.mk ((below_alloc HB.out _).trans hk); have k1 := blk_cell q1 0; have z1 := blk_lt q1; have f1 := blk_frozen q1 0; simp only [List.getElem?_toArray, List.getElem?_cons_zero] at k1; clear q1 q2 q3 hk)
  have q1 := blk_set Q1.out 0 (.slice ad (leases base M n.toNat).length cap)
  have c1 := blk_cell q1 0
  simp only [List.setIfInBounds_toArray, List.set_cons_zero, List.getElem?_toArray, List.getElem?_cons_zero] at c1
  refine bodyPost_ret (v := .slice ad (leases base M n.toNat).length cap) ?_ rfl ?_
  · simp [results, Try.results11, go_sem, c1]
  exact ⟨ad, cap, rfl, own_setCell Q2.out (fun e => Q3.out e.symm) _, below_set HK.out (Nat.le_refl _)⟩
end Go.Proofs.YtjpnebhhpogebaaHPool
