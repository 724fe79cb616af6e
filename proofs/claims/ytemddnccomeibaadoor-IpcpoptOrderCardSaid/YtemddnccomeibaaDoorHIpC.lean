/- ipcpopt: the row's condition tells what the variables hold; the frame of a law's row. -/
import Derived.Test.YtemddnccomeibaaDoorRows
import Derived.Test.YtemddnccomeibaaDoorHIp1
import Derived.ProofKit
import Derived.LaidMore
import Derived.LaidSub
import Derived.Lib.LaidTab
import Derived.Stop.LaidErr
import Derived.Shelf.Vars
import Derived.HandedShaped
import Derived.OpenShut
import Derived.ChangeSame
import Derived.SevenTiedAt
namespace Go.Proofs.YtemddnccomeibaaDoorHIp
open Go.ChangeShapes Go.WideShapes Go.ChangeAt Go.RowKit Go.Lib Go.Proofs.YtemddnccomeibaaDoor
set_option linter.unusedVariables false
set_option maxRecDepth 100000
/-- The wrap of a row that lists variables, the world's shape kept. -/
theorem handed_and_shaped {H : Type} {enc : TypeId × Value → H} {a : Assume} {C : Checked} {os : Os} {f : FuncId} {fn : Func} {s : ChangeSpec} {conds : List PathCond} {apart fresh handsOn again : Bool} {X : World → Array Value → Prop}
    (hX : ∀ (w w' : World) (args : Array Value), w.heap = w'.heap → X w args → X w' args)
    (own : ownKnob C.prog.godebug = none) (started : os.Started) (noInit : C.prog.inits.idxOf? f = none) (hfn : C.prog.funcs[f]? = some fn)
    (witness : ∃ (w : World) (tape : Tape) (i : Input), w.os = os ∧ (w.forCall tape i).Shaped C.prog ∧ i.vars = [] ∧ Input.okWide C.prog (w.forCall tape i) .any w.heap.size f i ∧
      ((s.pre enc C.prog fn conds apart (w.forCall tape i).memory i.args ∧ X (w.forCall tape i).memory i.args) ∧ sizedMet enc C.prog fn (OpenSpec.ofChange s) apart (w.forCall tape i).memory i.args) ∧ a.holds C.prog (lone (Frame.enter C.prog f i.args .normal) [] (w.forCall tape i)))
    (contract : ∀ (W : World) (base : Nat) (args : Array Value) (ds gs : List (DataW H)) (before : List MemPlace),
      (∀ (j : Nat) t v, fn.params[j]? = some t → args[j]? = some v → Value.okWide C.prog W .any base t v) →
      DataW.Whole enc C.prog fn.params.toList s.vars apart W args.toList ds gs before →
      (DataW.weightsEach C.prog (fn.params.toList ++ s.plain.varTypes C.prog) (ds ++ gs)).all (· ≤ reachBytes) = true → X W args → W.ShapedOpen C.prog →
      a.holds C.prog (lone (Frame.enter C.prog f args .normal) [] W) →
      Calls C.prog f args W fun e W' => ∃ v, e = .returned v ∧ s.post enc C.prog fn apart fresh handsOn again W args v W') :
    ReturnsInHanded a C os f .any (fun w args => (s.pre enc C.prog fn conds apart w args ∧ X w args) ∧ sizedMet enc C.prog fn (OpenSpec.ofChange s) apart w args) (s.post enc C.prog fn apart fresh handsOn again) := by
  refine returnsInHanded_of_calls own started noInit witness ?_
  intro w tape i _ hsh _ hok hpre hholds
  obtain ⟨_, _, _, fn', hfn', _, _, _, _, hval⟩ := hok
  have e : fn' = fn := Option.some.inj (hfn'.symm.trans hfn)
  subst e
  obtain ⟨⟨⟨ds, gs, before, hw, hc⟩, hx⟩, hz⟩ := hpre
  have hw' := DataW.Whole.of_heap (w' := w.forCall tape i) (by rfl) hw
  refine (contract (w.forCall tape i) w.heap.size i.args ds gs before hval hw' (hz.weights hw) (hX _ _ _ (by rfl) hx) hsh hholds).mono fun e W' ⟨v, he, hp⟩ => ?_
  subst he
  exact ChangeSpec.post_blind hp
theorem own : ownKnob Tryd.prog.godebug = none := by kernel_rfl
theorem laidOut : laidOutB Tryd.prog = true := by kernel_rfl
theorem star : "*" ++ "errors.errorString" = "*errors.errorString" := by decide
theorem rowErr (u : TypeId) (h : Tryd.prog.typeName? 3 u = some "*errors.errorString") : u = 105 :=
  typeName_ptr_named (nm := "errors.errorString") (by rw [star]; kernel_rfl) (by kernel_rfl) (by decide) u (by rw [star]; exact h)
/-- What the row lists. -/
def laidL : List (String × DataW Unit) := Rows.ipcpoptTextsRow.laid
/-- The table of the kinds, as listed. -/
def kd (n : Int) (d : UInt8) : DataW Unit := .agg [.lit (.int .u8 n), .iface "func" (.lit (.string [104, 97, 108, 121, 97, 114, 100, 47, 105, 112, 99, 112, 111, 112, 116, 46, 107, 105, 110, 100, 115, 36, d]))]
def kdO (n : Int) (d : UInt8) : DataW (List UInt8) := .agg [.lit (.int .u8 n), .held [104, 97, 108, 121, 97, 114, 100, 47, 105, 112, 99, 112, 111, 112, 116, 46, 107, 105, 110, 100, 115, 36, d]]
theorem c62 : Tryd.prog.cellsOf 62 = 2 := by kernel_rfl
theorem c63 : Tryd.prog.cellsOf 63 = 6 := by kernel_rfl
theorem c5 : Tryd.prog.cellsOf 5 = 1 := by kernel_rfl
theorem c60 : Tryd.prog.cellsOf 60 = 1 := by kernel_rfl
theorem kind_of {W : World} {fuel : Nat} {c0 c1 : Value} {x : DataW (List UInt8) × List MemPlace} {k : Int} {d : UInt8} {f0 : FuncId}
    (h : DataW.trod (funcToken Tryd.prog) Tryd.prog W 0 (fun _ => true) true fuel 62 [c0, c1] = some x) (hx : x.1 = kdO k d)
    (hone : ((List.range Tryd.prog.funcs.size).filter fun f => (Tryd.prog.funcs[f]?).any (·.name.toUTF8.data.toList == [104, 97, 108, 121, 97, 114, 100, 47, 105, 112, 99, 112, 111, 112, 116, 46, 107, 105, 110, 100, 115, 36, d])) = [f0]) :
    c0 = .int .u8 k ∧ c1 = .func (.func f0) #[] #[] := by
  obtain ⟨y0, y1, n, rfl, _, h0, h1⟩ := trod_struct2 Tryd.underlying62 h
  have e0 : y0.1 = .lit (.int .u8 k) ∧ y1.1 = .held [104, 97, 108, 121, 97, 114, 100, 47, 105, 112, 99, 112, 111, 112, 116, 46, 107, 105, 110, 100, 115, 36, d] := by
    simpa [kdO] using hx
  obtain ⟨z0, q0⟩ := y0
  obtain ⟨z1, q1⟩ := y1
  obtain ⟨rfl, rfl⟩ := e0
  have h0' : DataW.trod (funcToken Tryd.prog) Tryd.prog W 0 (fun _ => true) true n 5 [c0] = some (.lit (.int .u8 k), q0) := by
    have := h0
    simp only [c5] at this
    exact this
  have h1' : DataW.trod (funcToken Tryd.prog) Tryd.prog W 0 (fun _ => true) true n 60 [c1] = some (.held [104, 97, 108, 121, 97, 114, 100, 47, 105, 112, 99, 112, 111, 112, 116, 46, 107, 105, 110, 100, 115, 36, d], q1) := by
    have := h1
    simp only [c60] at this
    exact this
  obtain ⟨m, hc, hz, _⟩ := DataW.trod_int Tryd.underlying5 h0'
  refine ⟨?_, func_of_trod Tryd.underlying60 hone h1'⟩
  simp at hc hz
  obtain ⟨hz, _⟩ := hz
  rw [hc, hz]
theorem kinds_type : (Tryd.prog.globals[0]?).map (·.type) = some 63 := by kernel_rfl
theorem of_funcs {W : World} (h : funcsAt Tryd.prog W "halyard/ipcpopt.kinds" (.agg [kd 3 49, kd 129 50, kd 131 51])) :
    W.cell? ⟨0, 0, none⟩ = some (.int .u8 3) ∧ W.cell? ⟨0, 1, none⟩ = some (.func (.func 91) #[] #[]) ∧
    W.cell? ⟨0, 2, none⟩ = some (.int .u8 129) ∧ W.cell? ⟨0, 3, none⟩ = some (.func (.func 92) #[] #[]) ∧
    W.cell? ⟨0, 4, none⟩ = some (.int .u8 131) ∧ W.cell? ⟨0, 5, none⟩ = some (.func (.func 93) #[] #[]) := by
  obtain ⟨g, t, cs, fuel, p, hg, ht, hv, hd⟩ := h
  obtain rfl := Option.some.inj (g_kinds.symm.trans hg)
  obtain rfl := Option.some.inj (kinds_type.symm.trans ht)
  have hd' : DataW.trod (funcToken Tryd.prog) Tryd.prog W 0 (fun _ => true) true fuel 63 cs.toList = some (.agg [kdO 3 49, kdO 129 50, kdO 131 51], p) := hd
  obtain ⟨xs, m, _, hx, hl, hn, hel⟩ := DataW.trod_array Tryd.underlying63 hd'
  rw [c63] at hl
  match xs, hn with
  | [x0, x1, x2], _ =>
    obtain ⟨l⟩ := cs
    match l, hl with
    | [a0, a1, a2, a3, a4, a5], _ =>
      simp only [Prod.mk.injEq, DataW.agg.injEq, List.map_cons, List.map_nil, List.cons.injEq, and_true] at hx
      obtain ⟨⟨e0, e1, e2⟩, _⟩ := hx
      have t0 := hel 0 (by omega)
      have t1 := hel 1 (by omega)
      have t2 := hel 2 (by omega)
      simp only [c62] at t0 t1 t2
      obtain ⟨rfl, rfl⟩ := kind_of (f0 := 91) (show DataW.trod (funcToken Tryd.prog) Tryd.prog W 0 (fun _ => true) true m 62 [a0, a1] = some x0 from t0) e0.symm (by kernel_rfl)
      obtain ⟨rfl, rfl⟩ := kind_of (f0 := 92) (show DataW.trod (funcToken Tryd.prog) Tryd.prog W 0 (fun _ => true) true m 62 [a2, a3] = some x1 from t1) e1.symm (by kernel_rfl)
      obtain ⟨rfl, rfl⟩ := kind_of (f0 := 93) (show DataW.trod (funcToken Tryd.prog) Tryd.prog W 0 (fun _ => true) true m 62 [a4, a5] = some x2 from t2) e2.symm (by kernel_rfl)
      exact ⟨World.var?_cell hg hv 0, World.var?_cell hg hv 1, World.var?_cell hg hv 2, World.var?_cell hg hv 3, World.var?_cell hg hv 4, World.var?_cell hg hv 5⟩
theorem of_laid {W : World} (h : laidMetH Tryd.prog laidL W) (hs : W.ShapedOpen Tryd.prog) : VarsAt W := by
  have h1 : laidMet Tryd.prog [("math/bits.deBruijn32tab", Rows.laid_math_bits_deBruijn32tab), ("math/bits.deBruijn64tab", Rows.laid_math_bits_deBruijn64tab), ("internal/strconv.uint64pow10", Rows.laid_internal_strconv_uint64pow10), ("strconv.ErrRange", Rows.laid_strconv_ErrRange), ("strconv.ErrSyntax", Rows.laid_strconv_ErrSyntax)] W := (laidMetH_iff.1 h).1
  have h3 := h1.tail.tail
  have tab : TabIs Tryd.prog W "internal/strconv.uint64pow10" .u64 Lib.pow10Tab :=
    tabIs_of_head (n := 20) (t := 109) (e := 50) g_pow (by kernel_rfl) Tryd.underlying109 Tryd.underlying50 (by kernel_rfl) (by kernel_rfl) h3
  have h4 := h3.tail
  obtain ⟨a4, s4, v4, _⟩ := laid_sentinel (P := Tryd.prog) (tp := 105) (te := 107) (ts := 9) h4 g_rng (by kernel_rfl) Tryd.underlying52 rowErr Tryd.underlying105 Tryd.underlying107 rfl rfl Tryd.underlying9 (by kernel_rfl) (by kernel_rfl)
  have h5 := h4.tail
  obtain ⟨a5, s5, v5, _⟩ := laid_sentinel (P := Tryd.prog) (tp := 105) (te := 107) (ts := 9) h5 g_syn (by kernel_rfl) Tryd.underlying52 rowErr Tryd.underlying105 Tryd.underlying107 rfl rfl Tryd.underlying9 (by kernel_rfl) (by kernel_rfl)
  have hm : ("halyard/ipcpopt.kinds", DataW.iface "func table" (.agg [kd 3 49, kd 129 50, kd 131 51])) ∈ laidL := .tail _ (.tail _ (.tail _ (.tail _ (.tail _ (.head _)))))
  obtain ⟨k0, k1, k2, k3, k4, k5⟩ := of_funcs (h.funcs hm)
  exact ⟨tab, cell_of_shapedOpen_int (t := 3) (zero := #[.int .i64 0]) hs (of_decide_eq_true (by kernel_rfl)) (by kernel_rfl) rfl (by kernel_rfl) (by kernel_rfl) Tryd.underlying3, ⟨_, _, v5⟩, ⟨_, _, v4⟩, k0, k1, k2, k3, k4, k5⟩
/-- The door's own heap meets the condition. -/
theorem door_met (os : Os) (args : Array Value) : laidMetH Tryd.prog laidL ((World.doorLaid Tryd.prog 70 os).forCall (fun _ _ => 0) ⟨#[], args, []⟩).memory :=
  laidMetH_of_parts3 (fuel := 8) (laidMet_of_run' 8 (by kernel_rfl) (by kernel_rfl)) (by kernel_rfl) (by kernel_rfl)
end Go.Proofs.YtemddnccomeibaaDoorHIp
