import Derived.Test.YthlejpbdmgcgbaaM0
import Derived.Deep.LoopGhost
import Derived.Great.BuildSlice
/- A label to which a goto jumps back, walked as a loop is. -/
namespace Go.Proofs.Ythlejpbdmgcgbaa.P
open Go.RowKit Go.Proofs.YthlejpbdmgcgbaaW.PrintWords Go.Proofs.YthlejpbdmgcgbaaW.PrintLast Go.Proofs.YthlejpbdmgcgbaaW.PrintMore
set_option linter.unusedVariables false
set_option linter.unusedSimpArgs false
section
variable {P : Program} {Q : Exit → Act → World → Prop}
theorem jump_mono {l : Nat} {J J' : Act → World → Prop} (h : ∀ a w, J a w → J' a w) : ∀ e a w, Exit.jump l J Q e a w → Exit.jump l J' Q e a w := by
  intro e a w
  cases e with
  | goto l' => exact fun q => ⟨q.1, h _ _ q.2⟩
  | normal => exact id
  | exit id => exact fun q => q
  | ret => exact id
  | panic ch => exact fun q => q
  | outgrown => exact id
/-- What lies behind the label comes to an end, with at most n jumps. -/
def RecN (P : Program) (rest : Code) (l : Nat) (Q : Exit → Act → World → Prop) : Nat → Act → World → Prop
  | 0, _, _ => False
  | n + 1, a, w => rest.wp P (Exit.jump l (RecN P rest l Q n) Q) a w
def Rec (P : Program) (rest : Code) (l : Nat) (Q : Exit → Act → World → Prop) (a : Act) (w : World) : Prop := ∃ n, RecN P rest l Q n a w
theorem RecN.succ {rest : Code} {l : Nat} (n : Nat) : ∀ a w, RecN P rest l Q n a w → RecN P rest l Q (n + 1) a w := by
  induction n with
  | zero => exact fun _ _ h => h.elim
  | succ n ih => exact fun a w h => wp_mono (P := P) h (jump_mono ih)
theorem RecN.le {rest : Code} {l : Nat} {m n : Nat} (h : m ≤ n) : ∀ a w, RecN P rest l Q m a w → RecN P rest l Q n a w := by
  induction h with
  | refl => exact fun _ _ h => h
  | step _ ih => exact fun a w q => RecN.succ _ a w (ih a w q)
theorem skip_seq {c : Code} {a : Act} {w : World} (h : c.wp P Q a w) : (Code.skip.seq c).wp P Q a w := by
  refine wp_seq_k fun K hK => ?_
  exact wp_skip (hK _ _ h)
theorem wp_scope_back {c rest : Code} {a : Act} {w : World} (l : Nat) (hf : findLabel c l = some (Code.skip.seq rest)) (h : c.wp P (Exit.jump l (Rec P rest l Q) Q) a w) : (Code.scope c).wp P Q a w := by
  refine wp_scope_jumps l (Rec P rest l Q) (fun a w => leastOf (fun n => RecN P rest l Q n a w)) hf h ?_
  intro a w hJ
  have hl := leastOf_spec hJ
  show (Code.skip.seq rest).wp P (Exit.jump l (fun a' w' => Rec P rest l Q a' w' ∧ leastOf (fun n => RecN P rest l Q n a' w') < leastOf (fun n => RecN P rest l Q n a w)) Q) a w
  generalize leastOf (fun n => RecN P rest l Q n a w) = m at hl
  cases m with
  | zero => exact hl.1.elim
  | succ m =>
    refine wp_mono (P := P) (skip_seq (show rest.wp P (Exit.jump l (RecN P rest l Q m) Q) a w from hl.1)) (jump_mono ?_)
    intro a' w' q
    exact ⟨⟨m, q⟩, Nat.lt_succ_of_le ((leastOf_spec ⟨m, q⟩).2 m q)⟩
/-- At the label: what holds there bears a number, which every jump lowers. -/
theorem wp_back_ghost {rest : Code} {a : Act} {w : World} {l : Nat} (I : Act → Nat → Act → World → Prop) (n₀ : Nat) (h₀ : I a n₀ a w)
    (round : ∀ n a' w', I a n a' w' → ∀ (J : Nat → Act → World → Prop) (K : Act → World → Prop), (∀ k a' w', I a k a' w' → J k a' w') → (∀ a' w', Handed J n a' w' → K a' w') → rest.wp P (Exit.jump l K Q) a' w') :
    rest.wp P (Exit.jump l (Rec P rest l Q) Q) a w := by
  have key : ∀ n a' w', I a n a' w' → RecN P rest l Q (n + 1) a' w' := by
    intro n
    induction n using Nat.strongRecOn with
    | _ n ih =>
      intro a' w' hI
      refine round n a' w' hI (I a) (RecN P rest l Q n) (fun _ _ _ h => h) ?_
      rintro a2 w2 ⟨n', hlt, h2⟩
      exact RecN.le (Nat.succ_le_of_lt hlt) _ _ (ih n' hlt _ _ h2)
  exact wp_mono (P := P) (show rest.wp P (Exit.jump l (RecN P rest l Q n₀) Q) a w from key n₀ a w h₀) (jump_mono fun _ _ h => ⟨_, h⟩)
end
/-! A call of a function value that lies in a slot. -/
section
variable {P : Program} {ops : Array Oper} {Q : Exit → Act → World → Prop}
theorem gate_tmp {o : Oper} {rest : List Oper} {a : Act} {W : World} {x : Tmp} {as : Array Operand} {ts : Array TypeId} (_ho : o.op = .call { callee := .value (.tmp x), args := as, argTypes := ts }) (h : wpList P ops Q (o :: rest) a W) : wpList P ops Q (o :: rest) a W := h
theorem run_tmp {oi : Oper} {a : Act} {w : World} {x : Tmp} {f : FuncId} {fn : Func} {as : Array Operand} {ts : Array TypeId} (hx : a.eval (.tmp x) = .func (.func f) #[] #[]) (hf : P.funcs[f]? = some fn) (hname : (fn.name == "runtime.NumGoroutine") = false) (hb : fn.body.isSome = true) (args : Array Value)
    (hop : oi.op = .call { callee := .value (.tmp x), args := as, argTypes := ts }) (hargs : as.map a.eval = args) : (execOp a.eval oi).run P w = .ok (.enter f args) w := by
  have he := enters_ hf hname hb args w
  unfold execOp
  simp [hop, resolve, Deferred.ofValue, invoke, hx, hargs, he]
theorem goesT_ {oi : Oper} {N : Option Tmp} {a : Act} {w : World} {K : Act → World → Prop} {x : Tmp} {f : FuncId} {fn : Func} {as : Array Operand} {ts : Array TypeId} (hx : a.eval (.tmp x) = .func (.func f) #[] #[]) (hf : P.funcs[f]? = some fn) (hname : (fn.name == "runtime.NumGoroutine") = false) (hb : fn.body.isSome = true) (args : Array Value)
    (hw : Region.wanted oi (yielded ops a.tmps) = true) (hN : oi.dst = N) (hop : oi.op = .call { callee := .value (.tmp x), args := as, argTypes := ts }) (hargs : as.map a.eval = args)
    (h : Calls P f args w fun e w' => ∃ v, e = .returned v ∧ K (a.put N v) w') : if Region.wanted oi (yielded ops a.tmps) = true then Oper.wp P oi a w K Q else K (a.put N undef) w :=
  call_ f args hw hN (run_tmp hx hf hname hb args hop hargs) h
theorem goesLT_ {rest : List Oper} {oi : Oper} {a : Act} {w : World} (N : Option Tmp) {x : Tmp} {f : FuncId} (hx : a.eval (.tmp x) = .func (.func f) #[] #[]) (hd : oi.dst = N) (hg : oi.guard = none) {fn : Func} {as : Array Operand} {ts : Array TypeId} (hf : P.funcs[f]? = some fn) (hname : (fn.name == "runtime.NumGoroutine") = false) (hb : fn.body.isSome = true) (args : Array Value)
    (hop : oi.op = .call { callee := .value (.tmp x), args := as, argTypes := ts }) (hargs : as.map a.eval = args)
    (h : Calls P f args w fun e w' => ∃ v, e = .returned v ∧ wpList P ops Q rest (a.put N v) w') : wpList P ops Q (oi :: rest) a w := by
  refine wpList_plain hg fun K hK => ?_
  unfold Oper.wp
  rw [run_tmp hx hf hname hb args hop hargs, Oper.upon_enter]
  refine h.mono fun e w'' hh => ?_
  obtain ⟨v, rfl, hk⟩ := hh
  subst hd
  exact hK _ _ hk
end
end Go.Proofs.Ythlejpbdmgcgbaa.P
