/- The law halyard/halyardlaw11.RejectTells in plain Lean: what the call comes to is true, whatever the input; no condition. -/
import Derived.Test.YtdlpoemjgeehgaaPG11Tx
import Derived.Test.YtdlpoemjgeehgaaHW
namespace Go.Proofs.Ytdlpoemjgeehgaa.Pure
open Go.RowKit Go.Proofs.Ytdlpoemjgeehgaa.PG11T Go.Proofs.YtdlpoemjgeehgaaW.PrintWords Go.Proofs.YtdlpoemjgeehgaaW.PrintLast Go.Proofs.YtdlpoemjgeehgaaHW
/-! Plain facts on packets that say what can't be taken. -/
theorem rj_nil_append (a : ByteArray) : (⟨#[]⟩ : ByteArray) ++ a = a := ByteArray.empty_append
theorem rj_append_nil (a : ByteArray) : a ++ (⟨#[]⟩ : ByteArray) = a := ByteArray.append_empty
def cutb (s : ByteArray) (m : Int) : ByteArray := s.extract 0 (mn m (s.size : Int)).toNat
theorem cutb_size (s : ByteArray) (m : Int) (h : 0 ≤ m) : ((cutb s m).size : Int) = mn m s.size := by
  unfold cutb mn; rw [ByteArray.size_extract]; split <;> omega
theorem cutb_bt (s : ByteArray) (m : Int) (i : Int) (h : i.toNat < (cutb s m).size) : bt (cutb s m) i = bt s i := by
  unfold cutb at h ⊢
  have h' := h
  rw [ByteArray.size_extract] at h'
  unfold bt
  rw [dif_pos h, dif_pos (by omega), ByteArray.getElem_extract]
  simp only [Nat.zero_add]
/-- What is behind the front of what is cut. -/
theorem cutb_rest (A d : ByteArray) (m : Int) (n : Nat) (hn : n = A.size) (h : n ≤ (cutb (A ++ d) m).size) :
    (cutb (A ++ d) m).extract n (cutb (A ++ d) m).size = d.extract 0 ((cutb (A ++ d) m).size - n) := by
  subst hn
  have hle : (cutb (A ++ d) m).size ≤ (A ++ d).size := by unfold cutb; rw [ByteArray.size_extract]; omega
  rw [ByteArray.size_append] at hle
  refine hw_ext _ _ (by rw [ByteArray.size_extract, ByteArray.size_extract]; omega) fun i hi => ?_
  rw [ByteArray.size_extract] at hi
  rw [hw_bt_x _ _ _ _ (by rw [ByteArray.size_extract, Int.toNat_natCast]; omega), hw_bt_x _ _ _ _ (by rw [ByteArray.size_extract, Int.toNat_natCast]; omega)]
  rw [Int.toNat_natCast, cutb_bt _ _ _ (by rw [Int.toNat_natCast]; omega), hw_bt_r _ _ _ (by omega), Nat.zero_add]
  congr 1; omega
theorem trim_val (s : ByteArray) (m : Int) (h : 0 ≤ m) : packet_Trim.f s m = some (cutb s m, 0) := by
  unfold packet_Trim.f cutb mn
  rw [if_neg (by omega)]
  by_cases c : (s.size : Int) < m
  · rw [if_pos c, if_pos (by omega), if_pos (by omega)]
  · rw [if_neg c, if_pos (by omega), if_pos (by omega)]
def lim (mru : Int) : Int := mn (mru - 4) 1496
theorem lim_range (mru : Int) (h0 : 64 ≤ mru) : 60 ≤ lim mru ∧ lim mru ≤ 1496 ∧ lim mru ≤ mru - 4 ∧ lim mru + 4 = mn mru 1500 := by
  unfold lim mn; split <;> split <;> omega
theorem join1 (x : ByteArray) (h : x.size ≤ 1000000000) : strings_Join.f [x] ⟨#[]⟩ = some x := by
  unfold strings_Join.f
  have e : strings_Join.j ⟨#[]⟩ [x] = x := ByteArray.append_empty
  rw [if_pos ⟨by show 1 * 0 + (x.size + 0) ≤ _; omega, by simp⟩, e]
theorem join2 (x y : ByteArray) (h : x.size ≤ 1000000000) (h' : y.size ≤ 1000000000) : strings_Join.f [x, y] ⟨#[]⟩ = some (x ++ y) := by
  unfold strings_Join.f
  have e : strings_Join.j ⟨#[]⟩ [x, y] = x ++ y := by
    show x ++ ((⟨#[]⟩ : ByteArray) ++ y ++ ⟨#[]⟩) = x ++ y
    rw [rj_nil_append, rj_append_nil]
  rw [if_pos ⟨by show 2 * 0 + (x.size + (y.size + 0)) ≤ _; omega, by simp⟩, e]
theorem say_bad (c i mru : Int) (l : List ByteArray) (h : ¬ (64 ≤ mru ∧ mru ≤ 65535)) : reject_say.f c i mru l = some (0, 0, ⟨#[]⟩, 2) := by
  unfold reject_say.f; rw [if_pos (by omega)]
theorem say_val (c i mru : Int) (l : List ByteArray) (s : ByteArray) (h0 : 64 ≤ mru) (h1 : mru ≤ 65535) (hj : strings_Join.f l ⟨#[]⟩ = some s) : reject_say.f c i mru l = some (c, i, cutb s (lim mru), 0) := by
  have := lim_range mru h0
  unfold reject_say.f
  rw [if_neg (by omega), hj]
  simp only [Option.bind_some]
  rw [trim_val _ _ (by unfold lim at this; omega)]
  rfl
def pk (c i : Int) (d : ByteArray) : ByteArray := strOfNums [c, i, ((d.size : Int) + 4) / 256, ((d.size : Int) + 4) % 256] ++ d
theorem pk_size (c i : Int) (d : ByteArray) : (pk c i d).size = d.size + 4 := by unfold pk; rw [ByteArray.size_append, hw_strs]; simp; omega
theorem rj_put (c i : Int) (d : ByteArray) (h : d.size ≤ 1496) : packet_Put.f c i d = some (pk c i d, 0) := by
  unfold packet_Put.f; rw [if_neg (by omega)]; rfl
theorem code_bad (i c id : Int) (d : ByteArray) (mru : Int) (_hd : d.size ≤ 1000000) (h : ¬ (64 ≤ mru ∧ mru ≤ 65535)) : reject_Code.f i c id d mru = some (0, 0, ⟨#[]⟩, 2) := by
  unfold reject_Code.f packet_Put.f
  split <;> (simp only [Option.bind_some]; rw [say_bad _ _ _ _ h]; rfl)
theorem code_long (i c id : Int) (d : ByteArray) (mru : Int) (h0 : 64 ≤ mru) (h1 : mru ≤ 65535) (hd : d.size > 1496) : reject_Code.f i c id d mru = some (0, 0, ⟨#[]⟩, 5) := by
  unfold reject_Code.f packet_Put.f
  rw [if_pos (by omega)]
  simp only [Option.bind_some]
  rw [say_val _ _ _ _ _ h0 h1 (join1 _ (by decide))]
  rfl
theorem code_val (i c id : Int) (d : ByteArray) (mru : Int) (h0 : 64 ≤ mru) (h1 : mru ≤ 65535) (hd : d.size ≤ 1496) : reject_Code.f i c id d mru = some (7, i, cutb (pk c id d) (lim mru), 0) := by
  unfold reject_Code.f
  rw [rj_put _ _ _ hd]
  simp only [Option.bind_some]
  rw [say_val _ _ _ _ _ h0 h1 (join1 (pk c id d) (by rw [pk_size]; omega))]
  rfl
def pr (p : Int) (s : ByteArray) : ByteArray := strOfNums [(p / 256) % 256, p % 256] ++ s
theorem pr_size (p : Int) (s : ByteArray) : (pr p s).size = s.size + 2 := by unfold pr; rw [ByteArray.size_append, hw_strs]; simp; omega
theorem proto_bad (i p : Int) (s : ByteArray) (mru : Int) (h : ¬ (64 ≤ mru ∧ mru ≤ 65535)) : reject_Proto.f i p s mru = some (0, 0, ⟨#[]⟩, 2) := by
  unfold reject_Proto.f octet_Put16.f
  simp only [Option.bind_some]
  rw [say_bad _ _ _ _ h]; rfl
theorem proto_val (i p : Int) (s : ByteArray) (mru : Int) (hs : s.size ≤ 1000000) (h0 : 64 ≤ mru) (h1 : mru ≤ 65535) : reject_Proto.f i p s mru = some (8, i, cutb (pr p s) (lim mru), 0) := by
  unfold reject_Proto.f octet_Put16.f
  simp only [Option.bind_some]
  rw [say_val _ _ _ _ _ h0 h1 (join2 _ s (by rw [hw_strs]; simp) (by omega))]
  rfl
theorem alive_true : halyardlaw11_alive.f = some true := by decide +kernel
theorem rj_bt (xs : List Int) (s : ByteArray) (i : Nat) (h : i < xs.length) (h0 : 0 ≤ xs[i]) (h1 : xs[i] ≤ 255) : bt (strOfNums xs ++ s) (i : Int) = xs[i] := by
  rw [hw_bt_l _ _ _ (by rw [hw_strs]; simpa using h)]
  exact hw_bt_n xs i (by simpa using h) (by simpa using h0) (by simpa using h1)
/-- What a Code-Reject tells. -/
theorem inner_val (i c id : Int) (d : ByteArray) (m : Int) (hm : 60 ≤ m) (c0 : 0 ≤ c) (c1 : c ≤ 255) (i0 : 0 ≤ id) (i1 : id ≤ 255) :
    reject_Inner.f 7 i (cutb (pk c id d) m) = some (c, id, d.extract 0 ((cutb (pk c id d) m).size - 4), 0) ∧ 4 ≤ (cutb (pk c id d) m).size ∧ ((cutb (pk c id d) m).size : Int) = mn m (d.size + 4) := by
  have hz := cutb_size (pk c id d) m (by omega)
  rw [pk_size] at hz
  have hz' : ((cutb (pk c id d) m).size : Int) = mn m (d.size + 4) := by rw [hz]; rfl
  have h4 : 4 ≤ (cutb (pk c id d) m).size := by
    have : mn m ((d.size : Int) + 4) ≥ 4 := by unfold mn; split <;> omega
    omega
  refine ⟨?_, h4, hz'⟩
  have b0 : bt (cutb (pk c id d) m) 0 = c := by rw [cutb_bt _ _ _ (by omega)]; exact rj_bt [c, id, _, _] d 0 (by simp) c0 c1
  have b1 : bt (cutb (pk c id d) m) 1 = id := by rw [cutb_bt _ _ _ (by omega)]; exact rj_bt [c, id, _, _] d 1 (by simp) i0 i1
  have rest := cutb_rest (strOfNums [c, id, ((d.size : Int) + 4) / 256, ((d.size : Int) + 4) % 256]) d m 4 (by rw [hw_strs]; rfl) h4
  unfold reject_Inner.f
  rw [if_pos (by trivial), if_neg (by omega), if_pos (by omega), if_pos (by omega), if_pos (by omega), b0, b1]
  rw [show (cutb (pk c id d) m).extract 4 (cutb (pk c id d) m).size = d.extract 0 ((cutb (pk c id d) m).size - 4) from rest]
theorem get16_two (a : ByteArray) (h : a.size = 2) : octet_Get16.f a = some (256 * bt a 0 + bt a 1, 0) := by
  unfold octet_Get16.f; rw [if_neg (by omega), if_neg (by omega)]
/-- What a Protocol-Reject tells. -/
theorem rejected_val (i p : Int) (s : ByteArray) (m : Int) (hm : 60 ≤ m) (p0 : 0 ≤ p) (p1 : p ≤ 65535) :
    reject_Rejected.f 8 i (cutb (pr p s) m) = some (p, s.extract 0 ((cutb (pr p s) m).size - 2), 0) ∧ 2 ≤ (cutb (pr p s) m).size ∧ ((cutb (pr p s) m).size : Int) = mn m (s.size + 2) := by
  have hz := cutb_size (pr p s) m (by omega)
  rw [pr_size] at hz
  have hz' : ((cutb (pr p s) m).size : Int) = mn m (s.size + 2) := by rw [hz]; rfl
  have h2 : 2 ≤ (cutb (pr p s) m).size := by
    have : mn m ((s.size : Int) + 2) ≥ 2 := by unfold mn; split <;> omega
    omega
  refine ⟨?_, h2, hz'⟩
  have b0 : bt (cutb (pr p s) m) 0 = p / 256 % 256 := by rw [cutb_bt _ _ _ (by omega)]; exact rj_bt [_, _] s 0 (by simp) (by simp; omega) (by simp; omega)
  have b1 : bt (cutb (pr p s) m) 1 = p % 256 := by rw [cutb_bt _ _ _ (by omega)]; exact rj_bt [_, _] s 1 (by simp) (by simp; omega) (by simp; omega)
  have rest := cutb_rest (strOfNums [(p / 256) % 256, p % 256]) s m 2 (by rw [hw_strs]; rfl) h2
  have s2 : ((cutb (pr p s) m).extract 0 2).size = 2 := by rw [ByteArray.size_extract]; omega
  have x0 := hw_bt_x (cutb (pr p s) m) 0 2 0 (by rw [s2]; decide)
  have x1 := hw_bt_x (cutb (pr p s) m) 0 2 1 (by rw [s2]; decide)
  have y0 : bt ((cutb (pr p s) m).extract 0 2) 0 = p / 256 % 256 := x0.trans b0
  have y1 : bt ((cutb (pr p s) m).extract 0 2) 1 = p % 256 := x1.trans b1
  unfold reject_Rejected.f
  rw [if_pos (by trivial), if_neg (by omega), if_pos (by omega), if_pos (by omega), get16_two _ s2, y0, y1]
  simp only [Option.bind_some]
  rw [show (cutb (pr p s) m).extract 2 (cutb (pr p s) m).size = s.extract 0 ((cutb (pr p s) m).size - 2) from rest, show 256 * (p / 256 % 256) + p % 256 = p from by omega]

theorem cut_val (s : ByteArray) (mru : Int) (h0 : 64 ≤ mru) (h1 : mru ≤ 65535) : halyardref11_cut.f s mru = some (cutb s (lim mru)) := by
  unfold halyardref11_cut.f cutb
  have hw : wrap64 (mru - 4) = mru - 4 := by unfold wrap64; omega
  have e : mn (mn (s.size : Int) (mru - 4)) 1496 = mn (lim mru) (s.size : Int) := by
    unfold lim mn; split <;> split <;> split <;> omega
  have b : 0 ≤ mn (lim mru) (s.size : Int) ∧ mn (lim mru) (s.size : Int) ≤ s.size := by
    have := lim_range mru h0
    unfold mn; split <;> omega
  rw [hw, e, if_pos b.1, if_pos b.2]
theorem u16_in (n : Int) (h0 : 0 ≤ n) (h1 : n ≤ 65535) : IntKind.u16.wrap n = n := by rw [IntKind.wrap_u16]; omega
theorem rej_ref (c i : Int) (d : ByteArray) : halyardref11_Rejected.f c i d = reject_Rejected.f c i d := by
  unfold halyardref11_Rejected.f reject_Rejected.f
  by_cases h : c = 8
  · rw [if_pos h, if_pos h]
    by_cases g : (d.size : Int) < 2
    · rw [if_pos g, if_pos g]
    · have s2 : (d.extract 0 2).size = 2 := by rw [ByteArray.size_extract]; omega
      have b0 := bt_range d 0
      have b1 := bt_range d 1
      have x0 : bt (d.extract 0 2) 0 = bt d 0 := hw_bt_x d 0 2 0 (by rw [s2]; decide)
      have x1 : bt (d.extract 0 2) 1 = bt d 1 := hw_bt_x d 0 2 1 (by rw [s2]; decide)
      rw [if_neg g, if_neg g, if_pos (by omega), if_pos (by omega), if_pos (by omega), if_pos (by omega), if_pos (by omega), get16_two _ s2, x0, x1]
      simp only [Option.bind_some]
      rw [u16_in (bt d 0) (by omega) (by omega), u16_in (bt d 1) (by omega) (by omega), u16_in (bt d 0 * 256) (by omega) (by omega), u16_in _ (by omega) (by omega), Int.mul_comm]
  · rw [if_neg h, if_neg h]
theorem inner_ref (c i : Int) (d : ByteArray) : halyardref11_Inner.f c i d = reject_Inner.f c i d := rfl
theorem rej_any (c i : Int) (d : ByteArray) : ∃ a b e, reject_Rejected.f c i d = some (a, b, e) := by
  unfold reject_Rejected.f
  by_cases h : c = 8
  · rw [if_pos h]
    by_cases g : (d.size : Int) < 2
    · rw [if_pos g]; exact ⟨_, _, _, rfl⟩
    · have s2 : (d.extract 0 2).size = 2 := by rw [ByteArray.size_extract]; omega
      rw [if_neg g, if_pos (by omega), if_pos (by omega), get16_two _ s2]
      exact ⟨_, _, _, rfl⟩
  · rw [if_neg h]; exact ⟨_, _, _, rfl⟩
theorem inner_any (c i : Int) (d : ByteArray) : ∃ a b t e, reject_Inner.f c i d = some (a, b, t, e) := by
  unfold reject_Inner.f
  by_cases h : c = 7
  · rw [if_pos h]
    by_cases g : (d.size : Int) < 4
    · rw [if_pos g]; exact ⟨_, _, _, _, rfl⟩
    · rw [if_neg g, if_pos (by omega), if_pos (by omega), if_pos (by omega)]; exact ⟨_, _, _, _, rfl⟩
  · rw [if_neg h]; exact ⟨_, _, _, _, rfl⟩
theorem ref_put (c id : Int) (d : ByteArray) (hd : d.size ≤ 1496) : halyardref07_Put.f c id d = some (pk c id d, 0) := by
  unfold halyardref07_Put.f
  have w1 : wrap64 (4 + (d.size : Int)) = d.size + 4 := by unfold wrap64; omega
  have w2 : wrap64 (((d.size : Int) + 4) / 256) = ((d.size : Int) + 4) / 256 := by unfold wrap64; omega
  rw [if_neg (by omega), w1, Int.tdiv_eq_ediv_of_nonneg (by omega), Int.tmod_eq_emod_of_nonneg (by omega), w2]
  simp only [Option.bind_some]
  rw [if_pos (by rw [hw_strs]; simp; omega), show ((d.size : Int) + 4) / 256 % 256 = ((d.size : Int) + 4) / 256 from by omega, show ((d.size : Int) + 4) % 256 % 256 = ((d.size : Int) + 4) % 256 from by omega]
  rfl
theorem ref_code (i c id : Int) (d : ByteArray) (mru : Int) (h0 : 64 ≤ mru) (h1 : mru ≤ 65535) : halyardref11_Code.f i c id d mru = reject_Code.f i c id d mru := by
  unfold halyardref11_Code.f
  by_cases hd : d.size ≤ 1496
  · rw [ref_put c id d hd, code_val i c id d mru h0 h1 hd]
    simp only [Option.bind_some]
    rw [if_pos (by trivial), cut_val _ _ h0 h1]; rfl
  · rw [code_long i c id d mru h0 h1 (by omega)]
    unfold halyardref07_Put.f
    rw [if_pos (by omega)]; rfl
theorem ref_proto (i p : Int) (s : ByteArray) (mru : Int) (p0 : 0 ≤ p) (p1 : p ≤ 65535) (hs : s.size ≤ 1000000) (h0 : 64 ≤ mru) (h1 : mru ≤ 65535) : halyardref11_Proto.f i p s mru = some (8, i, cutb (pr p s) (lim mru)) := by
  unfold halyardref11_Proto.f
  rw [Int.tdiv_eq_ediv_of_nonneg p0, Int.tmod_eq_emod_of_nonneg p0, u16_in (p / 256) (by omega) (by omega), show p % 256 % 256 = p % 256 from by omega]
  simp only [Option.bind_some]
  rw [if_pos (by rw [hw_strs]; simp; omega), cut_val _ _ h0 h1]; rfl
theorem RejectTells (i c id : Int) (d : ByteArray) (p : Int) (s : ByteArray) (mru code : Int) (p0 : 0 ≤ p) (p1 : p ≤ 65535) (h1 : d.size ≤ 140737488351232) (h2 : s.size ≤ 140737488351232) : ∃ k, halyardlaw11_RejectTells.f k i c id d p s mru code = some true := by
  refine ⟨5, ?_⟩
  unfold halyardlaw11_RejectTells.f
  rw [alive_true]
  have hw : wrap64 ((d.size : Int) + (s.size : Int)) = d.size + s.size := by unfold wrap64; omega
  rw [hw]
  by_cases g : (d.size : Int) + s.size > 16384
  · rw [if_pos g]; rfl
  rw [if_neg g, rej_ref, inner_ref]
  obtain ⟨ra, rb, re, hr⟩ := rej_any c id d
  obtain ⟨ia, ib, it, ie, hi⟩ := inner_any c id d
  have hz : (⟨#[]⟩ : ByteArray).toList = ([] : List UInt8) := by decide +kernel
  have key : ∃ ca cb ct ce pa pb pt pe, reject_Code.f i c id d mru = some (ca, cb, ct, ce) ∧ reject_Proto.f i p s mru = some (pa, pb, pt, pe) ∧ ∀ k, halyardlaw11_RejectTells.j1 (k + 1) i p s mru ce pe c id d ca cb ct pa pb pt = some true := by
    by_cases hb : 64 ≤ mru ∧ mru ≤ 65535
    · obtain ⟨b0, b1⟩ := hb
      obtain ⟨ca, cb, ct, ce, hc⟩ : ∃ ca cb ct ce, reject_Code.f i c id d mru = some (ca, cb, ct, ce) := by
        by_cases hd : d.size ≤ 1496
        · exact ⟨_, _, _, _, code_val i c id d mru b0 b1 hd⟩
        · exact ⟨_, _, _, _, code_long i c id d mru b0 b1 (by omega)⟩
      refine ⟨ca, cb, ct, ce, _, _, _, _, hc, proto_val i p s mru (by omega) b0 b1, fun k => ?_⟩
      simp only [halyardlaw11_RejectTells.j1]
      have hmay : halyardref11_May.f mru = some true := by unfold halyardref11_May.f; rw [if_pos (by omega)]; simp [b1]
      rw [hmay, alive_true, ref_code i c id d mru b0 b1, hc]
      simp only [Option.bind_some]
      rw [if_pos (by trivial), if_pos (by simp), if_pos (by trivial), ref_proto i p s mru p0 p1 (by omega) b0 b1]
      simp only [Option.bind_some]
      rw [if_pos (by simp), if_pos (by trivial)]
    · refine ⟨_, _, _, _, _, _, _, _, code_bad i c id d mru (by omega) hb, proto_bad i p s mru hb, fun k => ?_⟩
      simp only [halyardlaw11_RejectTells.j1]
      have hmay : halyardref11_May.f mru = some false := by
        unfold halyardref11_May.f
        by_cases b0 : mru ≥ 64
        · rw [if_pos b0]; simp; omega
        · rw [if_neg b0]
      rw [hmay, alive_true, hz]
      rfl
  obtain ⟨ca, cb, ct, ce, pa, pb, pt, pe, hc, hp, hj⟩ := key
  rw [hc, hp, hr, hi]
  simp only [Option.bind_some]
  have hrep : reject_Reply.f c id d code s = if (s.size : Int) > 1496 then some (0, 0, ⟨#[]⟩, 5) else some (code, id, s, 0) := by
    unfold reject_Reply.f packet_Put.f
    by_cases hs : (s.size : Int) > 1496
    · rw [if_pos hs, if_pos hs]; rfl
    · rw [if_neg hs, if_neg hs]; rfl
  rw [hrep]
  by_cases hs : (s.size : Int) > 1496
  · rw [if_pos hs]
    simp only [Option.bind_some]
    rw [if_pos (by trivial), if_pos (by trivial), if_pos (by trivial), if_neg (by simp), bne_self_eq_false]
    simp only [halyardlaw11_RejectTells.j0]
    rw [if_neg (by simp), if_pos hs, hz, if_neg (by decide), if_pos (by trivial)]
    exact hj 3
  · rw [if_neg hs]
    simp only [Option.bind_some]
    rw [if_pos (by trivial), if_pos (by trivial), if_pos (by trivial), if_neg (by simp), bne_self_eq_false]
    simp only [halyardlaw11_RejectTells.j0]
    rw [if_neg (by simp), if_neg hs, if_neg (by simp), if_pos (by trivial)]
    exact hj 3

end Go.Proofs.Ytdlpoemjgeehgaa.Pure
