import Derived.Test.YtdgnekknmpfepaaGreatDoorRows
import Derived.Test.YtdgnekknmpfepaaGreatDoorP0
import Derived.Test.YtdgnekknmpfepaaGreatDoorP1
import Derived.LaidLaws
import Derived.Stop.LaidErr
import Derived.Lib.LaidTab
import Derived.MakeChecks
import Derived.HandedShaped
import Derived.Handed
/- What the listed variables give the walks: 'Env'. -/
namespace Go.Proofs.YtdgnekknmpfepaaGreatDoor.Laid
open Go.ChangeShapes Go.WideShapes Go.RowKit
set_option linter.unusedVariables false
set_option maxRecDepth 100000 in
theorem env_of {W : World} (h : laidMetH Tryz.prog Rows.syntaxExactRow.laid W) (hSh : W.ShapedOpen Tryz.prog) : P.Env W := by
  rw [MakeChecks.laidMetH_plain _ _ _ (by kernel_rfl)] at h
  have hL' : laidMet Tryz.prog Rows.syntaxExactRow.laid W := h
  unfold Rows.syntaxExactRow at hL'
  dsimp only at hL'
  have hT := Lib.tabIs_of_head (P := Tryz.prog) (W := W) (k := .u64) (zs := Lib.pow10Tab) (g := 2) (n := 20) (by kernel_rfl) (by kernel_rfl) Tryz.underlying158 Tryz.underlying108 (by kernel_rfl) (by kernel_rfl) (hL'.tail.tail)
  obtain ⟨a1, s1, hv1, _⟩ := laid_sentinel (g := 1) (hL'.tail.tail.tail.tail) (by kernel_rfl) (by kernel_rfl) Tryz.underlying38 (fun u h => typeName_ptr_named (nm := "errors.errorString") (by kernel_rfl) (by kernel_rfl) (by decide) u (h.trans (by kernel_rfl))) Tryz.underlying181 Tryz.underlying183 rfl rfl Tryz.underlying9 (by kernel_rfl) (by kernel_rfl)
  obtain ⟨a2, s2, hv2, _⟩ := laid_sentinel (g := 0) (hL'.tail.tail.tail.tail.tail) (by kernel_rfl) (by kernel_rfl) Tryz.underlying38 (fun u h => typeName_ptr_named (nm := "errors.errorString") (by kernel_rfl) (by kernel_rfl) (by decide) u (h.trans (by kernel_rfl))) Tryz.underlying181 Tryz.underlying183 rfl rfl Tryz.underlying9 (by kernel_rfl) (by kernel_rfl)
  have block : ∀ {nm : String} {g : Nat} {cs : Array Value}, Tryz.prog.globalNamed nm = some g → W.var? Tryz.prog nm = some cs → ∃ t b, W.heap[g]? = some (.cells cs t b) := by
    intro nm g cs hg hv
    unfold World.var? at hv
    rw [hg, Option.bind_some] at hv
    split at hv
    · rename_i cs' t b e
      obtain rfl := Option.some.inj hv
      exact ⟨t, b, e⟩
    · cases hv
  obtain ⟨t0, b0, h0⟩ := block (g := 2) (by kernel_rfl) hT
  obtain ⟨t1, b1, h1⟩ := block (g := 1) (by kernel_rfl) hv1
  obtain ⟨t2, b2, h2⟩ := block (g := 0) (by kernel_rfl) hv2
  obtain ⟨m, hm⟩ := Tryz.laysM146.s1_3 W hSh
  exact ⟨⟨t0, b0, h0⟩, ⟨_, _, t2, b2, h2⟩, ⟨_, _, t1, b1, h1⟩, ⟨m, hm⟩⟩
/-- The bridge to the row, with what is listed and the world's shape, both, at hand. -/
theorem handed_both {H : Type} {enc : TypeId × Value → H} {a : Assume} {C : Checked} {os : Os} {f : FuncId} {fn : Func} {s : ChangeSpec} {conds : List PathCond} {apart fresh handsOn again : Bool} {X : World → Array Value → Prop}
    (hX : ∀ (w w' : World) (args : Array Value), w.heap = w'.heap → X w args → X w' args)
    (own : ownKnob C.prog.godebug = none) (started : os.Started) (noInit : C.prog.inits.idxOf? f = none) (hfn : C.prog.funcs[f]? = some fn)
    (witness : ∃ (w : World) (tape : Tape) (i : Input), w.os = os ∧ (w.forCall tape i).Shaped C.prog ∧ i.vars = [] ∧ Input.okWide C.prog (w.forCall tape i) .any w.heap.size f i ∧
      ((s.pre enc C.prog fn conds apart (w.forCall tape i).memory i.args ∧ X (w.forCall tape i).memory i.args) ∧ sizedMet enc C.prog fn (OpenSpec.ofChange s) apart (w.forCall tape i).memory i.args) ∧ a.holds C.prog (lone (Frame.enter C.prog f i.args .normal) [] (w.forCall tape i)))
    (contract : ∀ (W : World) (base : Nat) (args : Array Value) (ds gs : List (DataW H)) (before : List MemPlace),
      (∀ (j : Nat) t v, fn.params[j]? = some t → args[j]? = some v → Value.okWide C.prog W .any base t v) →
      DataW.Whole enc C.prog fn.params.toList s.vars apart W args.toList ds gs before →
      conds.all (PathCond.test C.prog ⟨fn.params.toList, ds, s.plain.varTypes C.prog, gs⟩) = true →
      (DataW.weightsEach C.prog (fn.params.toList ++ s.plain.varTypes C.prog) (ds ++ gs)).all (· ≤ reachBytes) = true → X W args → W.ShapedOpen C.prog →
      Calls C.prog f args W fun e W' => ∃ v, e = .returned v ∧ s.post enc C.prog fn apart fresh handsOn again W args v W') :
    ReturnsInHanded a C os f .any (fun w args => (s.pre enc C.prog fn conds apart w args ∧ X w args) ∧ sizedMet enc C.prog fn (OpenSpec.ofChange s) apart w args) (s.post enc C.prog fn apart fresh handsOn again) := by
  refine returnsInHanded_of_calls own started noInit witness ?_
  intro w tape i _ hSh _ hok hpre _
  obtain ⟨_, _, _, fn', hfn', _, _, _, _, hval⟩ := hok
  obtain rfl : fn' = fn := Option.some.inj (hfn'.symm.trans hfn)
  obtain ⟨⟨⟨ds, gs, before, hw, hc⟩, hx⟩, hz⟩ := hpre
  refine (contract (w.forCall tape i) w.heap.size i.args ds gs before hval (DataW.Whole.of_heap (w' := w.forCall tape i) (by rfl) hw) hc (hz.weights hw) (hX _ _ _ (by rfl) hx) hSh).mono fun e W' ⟨v, he, hp⟩ => ?_
  subst he
  exact ChangeSpec.post_blind hp
end Go.Proofs.YtdgnekknmpfepaaGreatDoor.Laid
