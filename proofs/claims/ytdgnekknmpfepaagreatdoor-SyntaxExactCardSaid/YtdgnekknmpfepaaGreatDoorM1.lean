import Derived.Test.YtdgnekknmpfepaaGreatDoorM0
import Derived.Deep.LoopGhost
import Derived.Great.BuildSlice
/- A label to which a goto jumps back, walked as a loop is. -/
namespace Go.Proofs.YtdgnekknmpfepaaGreatDoor.P
open Go.RowKit Go.Proofs.YtdgnekknmpfepaaGreatDoorW.PrintWords Go.Proofs.YtdgnekknmpfepaaGreatDoorW.PrintLast Go.Proofs.YtdgnekknmpfepaaGreatDoorW.PrintMore
set_option linter.unusedVariables false
set_option linter.unusedSimpArgs false
section
variable {P : Program} {Q : Exit → Act → World → Prop}
theorem jump_mono {l : Nat} {J J' : Act → World → Prop} (h : ∀ a w, J a w → J' a w) : ∀ e a w, Exit.jump l J Q e a w → Exit.jump l J' Q e a w := by
  intro e a w
  cases e with
  | goto l' => exact fun q => ⟨q.1, h _ _ q.2⟩
  | normal => exact id
  | exit id => exact fun q => q
  | ret => exact id
  | panic ch => exact fun q => q
  | outgrown => exact id
/-- What lies behind the label comes to an end, with at most n jumps. -/
def RecN (P : Program) (rest : Code) (l : Nat) (Q : Exit → Act → World → Prop) : Nat → Act → World → Prop
  | 0, _, _ => False
  | n + 1, a, w => rest.wp P (Exit.jump l (RecN P rest l Q n) Q) a w
def Rec (P : Program) (rest : Code) (l : Nat) (Q : Exit → Act → World → Prop) (a : Act) (w : World) : Prop := ∃ n, RecN P rest l Q n a w
theorem RecN.succ {rest : Code} {l : Nat} (n : Nat) : ∀ a w, RecN P rest l Q n a w → RecN P rest l Q (n + 1) a w := by
  induction n with
  | zero => exact fun _ _ h => h.elim
  | succ n ih => exact fun a w h => wp_mono (P := P) h (jump_mono ih)
theorem RecN.le {rest : Code} {l : Nat} {m n : Nat} (h : m ≤ n) : ∀ a w, RecN P rest l Q m a w → RecN P rest l Q n a w := by
  induction h with
  | refl => exact fun _ _ h => h
  | step _ ih => exact fun a w q => RecN.succ _ a w (ih a w q)
theorem skip_seq {c : Code} {a : Act} {w : World} (h : c.wp P Q a w) : (Code.skip.seq c).wp P Q a w := by
  refine wp_seq_k fun K hK => ?_
  exact wp_skip (hK _ _ h)
theorem wp_scope_back {c rest : Code} {a : Act} {w : World} (l : Nat) (hf : findLabel c l = some (Code.skip.seq rest)) (h : c.wp P (Exit.jump l (Rec P rest l Q) Q) a w) : (Code.scope c).wp P Q a w := by
  refine wp_scope_jumps l (Rec P rest l Q) (fun a w => leastOf (fun n => RecN P rest l Q n a w)) hf h ?_
  intro a w hJ
  have hl := leastOf_spec hJ
  show (Code.skip.seq rest).wp P (Exit.jump l (fun a' w' => Rec P rest l Q a' w' ∧ leastOf (fun n => RecN P rest l Q n a' w') < leastOf (fun n => RecN P rest l Q n a w)) Q) a w
  generalize leastOf (fun n => RecN P rest l Q n a w) = m at hl
  cases m with
  | zero => exact hl.1.elim
  | succ m =>
    refine wp_mono (P := P) (skip_seq (show rest.wp P (Exit.jump l (RecN P rest l Q m) Q) a w from hl.1)) (jump_mono ?_)
    intro a' w' q
    exact ⟨⟨m, q⟩, Nat.lt_succ_of_le ((leastOf_spec ⟨m, q⟩).2 m q)⟩
/-- At the label: what holds there bears a number, which every jump lowers. -/
theorem wp_back_ghost {rest : Code} {a : Act} {w : World} {l : Nat} (I : Act → Nat → Act → World → Prop) (n₀ : Nat) (h₀ : I a n₀ a w)
    (round : ∀ n a' w', I a n a' w' → ∀ (J : Nat → Act → World → Prop) (K : Act → World → Prop), (∀ k a' w', I a k a' w' → J k a' w') → (∀ a' w', Handed J n a' w' → K a' w') → rest.wp P (Exit.jump l K Q) a' w') :
    rest.wp P (Exit.jump l (Rec P rest l Q) Q) a w := by
  have key : ∀ n a' w', I a n a' w' → RecN P rest l Q (n + 1) a' w' := by
    intro n
    induction n using Nat.strongRecOn with
    | _ n ih =>
      intro a' w' hI
      refine round n a' w' hI (I a) (RecN P rest l Q n) (fun _ _ _ h => h) ?_
      rintro a2 w2 ⟨n', hlt, h2⟩
      exact RecN.le (Nat.succ_le_of_lt hlt) _ _ (ih n' hlt _ _ h2)
  exact wp_mono (P := P) (show rest.wp P (Exit.jump l (RecN P rest l Q n₀) Q) a w from key n₀ a w h₀) (jump_mono fun _ _ h => ⟨_, h⟩)
end
/-! A call of a function value that lies in a slot. -/
section
variable {P : Program} {ops : Array Oper} {Q : Exit → Act → World → Prop}
theorem gate_tmp {o : Oper} {rest : List Oper} {a : Act} {W : World} {x : Tmp} {as : Array Operand} {ts : Array TypeId} (_ho : o.op = .call { callee := .value (.tmp x), args := as, argTypes := ts }) (h : wpList P ops Q (o :: rest) a W) : wpList P ops Q (o :: rest) a W := h
theorem run_tmp {oi : Oper} {a : Act} {w : World} {x : Tmp} {f : FuncId} {fn : Func} {as : Array Operand} {ts : Array TypeId} (hx : a.eval (.tmp x) = .func (.func f) #[] #[]) (hf : P.funcs[f]? = some fn) (hname : (fn.name == "runtime.NumGoroutine") = false) (hb : fn.body.isSome = true) (args : Array Value)
    (hop : oi.op = .call { callee := .value (.tmp x), args := as, argTypes := ts }) (hargs : as.map a.eval = args) : (execOp a.eval oi).run P w = .ok (.enter f args) w := by
  have he := enters_ hf hname hb args w
  unfold execOp
  simp [hop, resolve, Deferred.ofValue, invoke, hx, hargs, he]
theorem goesT_ {oi : Oper} {N : Option Tmp} {a : Act} {w : World} {K : Act → World → Prop} {x : Tmp} {f : FuncId} {fn : Func} {as : Array Operand} {ts : Array TypeId} (hx : a.eval (.tmp x) = .func (.func f) #[] #[]) (hf : P.funcs[f]? = some fn) (hname : (fn.name == "runtime.NumGoroutine") = false) (hb : fn.body.isSome = true) (args : Array Value)
    (hw : Region.wanted oi (yielded ops a.tmps) = true) (hN : oi.dst = N) (hop : oi.op = .call { callee := .value (.tmp x), args := as, argTypes := ts }) (hargs : as.map a.eval = args)
    (h : Calls P f args w fun e w' => ∃ v, e = .returned v ∧ K (a.put N v) w') : if Region.wanted oi (yielded ops a.tmps) = true then Oper.wp P oi a w K Q else K (a.put N undef) w :=
  call_ f args hw hN (run_tmp hx hf hname hb args hop hargs) h
theorem goesLT_ {rest : List Oper} {oi : Oper} {a : Act} {w : World} (N : Option Tmp) {x : Tmp} {f : FuncId} (hx : a.eval (.tmp x) = .func (.func f) #[] #[]) (hd : oi.dst = N) (hg : oi.guard = none) {fn : Func} {as : Array Operand} {ts : Array TypeId} (hf : P.funcs[f]? = some fn) (hname : (fn.name == "runtime.NumGoroutine") = false) (hb : fn.body.isSome = true) (args : Array Value)
    (hop : oi.op = .call { callee := .value (.tmp x), args := as, argTypes := ts }) (hargs : as.map a.eval = args)
    (h : Calls P f args w fun e w' => ∃ v, e = .returned v ∧ wpList P ops Q rest (a.put N v) w') : wpList P ops Q (oi :: rest) a w := by
  refine wpList_plain hg fun K hK => ?_
  unfold Oper.wp
  rw [run_tmp hx hf hname hb args hop hargs, Oper.upon_enter]
  refine h.mono fun e w'' hh => ?_
  obtain ⟨v, rfl, hk⟩ := hh
  subst hd
  exact hK _ _ hk
end
/-! A law's answer, and that of its probes, is true wherever it has one. -/
theorem yes_of {f : Nat → Option Bool} (hm : ∀ k, LeO (f k) (f (k + 1))) {n : Nat} (h : f n = some true) {k : Nat} {r : Bool} (hk : f k = some r) : r = true := by
  have up : ∀ (m k : Nat) (r : Bool), f k = some r → f (k + m) = some r := by
    intro m
    induction m with
    | zero => intro k r h; exact h
    | succ m ih => intro k r h; exact hm (k + m) r (ih k r h)
  have a := up k n true h
  have b := up n k r hk
  rw [Nat.add_comm] at b
  rw [b] at a
  exact Option.some.inj a
/-! Short names (wip/shrink.py). -/
theorem bA {w W : World} (h : Below w.heap.size w W) (o : Obj) : Below w.heap.size w (W.alloc o) := below_alloc h o
theorem bN {B : Nat} {w W : World} (h : Below B w W) (n : Nat) : Below B w (W.drewN n) := pw_below_drewN h n
theorem bD {B : Nat} {w W : World} (h : Below B w W) : Below B w W.drew := below_drew1 h
theorem aM {p : Prop} (h : p) : Aside0 p := Aside0.mk h
theorem oD {p : Prop} [Decidable p] (h : decide p = true) : p := of_decide_eq_true h
theorem oB {α β : Type} {o : Option α} {f : α → Option β} {b : β} (h : o.bind f = some b) : ∃ a, o = some a ∧ f a = some b := Option.bind_eq_some_iff.mp h
theorem sI {α : Type} {a b : α} (h : some a = some b) : a = b := Option.some.inj h
/-! Tactic blocks that stand often, as lemmas whose last argument Lean fills by the block; the names in it (HB) are those at the place of use (wip/squeeze.py). -/
@[irreducible] def stubNone (α : Type) : Option α := none
theorem stubNone_eq (α : Type) : stubNone α = none := by unfold stubNone; rfl
theorem beq_nil_isEmpty (l : List UInt8) : (l == ([] : List UInt8)) = l.isEmpty := by cases l <;> rfl
theorem zI {p q : Prop} (hp : p) (hq : q) : p ∧ q := ⟨hp, hq⟩
theorem zO {α β : Type} {o : Option α} {f : α → Option β} {b : β} (h : o.bind f = some b) : ∃ a, Aside0 (o = some a) ∧ f a = some b := by
  obtain ⟨a, h1, h2⟩ := Option.bind_eq_some_iff.mp h
  exact ⟨a, Aside0.mk h1, h2⟩
theorem zB {p : Prop} (h : p := by repeat (first | (with_reducible first | exact HB.out | apply bA | apply bN | apply bD) | exact HB.out)) : p := h
theorem zM {p : Prop} (h : p := by (try simp only [List.map_toArray, List.map_cons, List.map_nil]); first | done | rfl | (simp only [List.length_drop, List.length_take]; rfl)) : p := h
theorem zE {p : Prop} (h : p := by first | rfl | (simp [errW_none, errW_some] <;> rfl) | (simp [*, errW_none, errW_some] <;> rfl)) : p := h
theorem zP {p : Prop} (h : p := by first | rfl | (simp; done) | (simp [*]; done)) : p := h
theorem zD {p : Prop} (h : p := by repeat (first | exact Drawn0.refl _ | apply Drawn0.step)) : p := h
theorem zA {p : Prop} (h : p := by first | (with_reducible assumption) | assumption) : p := h
theorem zoA {p : Prop} [Decidable p] (h : decide p = true := by first | (with_reducible assumption) | assumption) : p := of_decide_eq_true h
theorem zL {p : Prop} (h : p := by first | exact Kd.R_nil _ _ _ _ _ | exact Kd.N_nil _ _ _ _ _ | exact Kd.V_nil _ _ _ _ _ | exact Kd.Q_nil _ _ _ _ _ | exact Kd.S_nil _ _ _ _ _) : p := h
theorem zY {α : Type} {a b : α} {p q : Prop} (e : a = b) (h : q) (t : a = b → q → p := by intro e_ H; first | (rw [e_]; with_reducible exact H) | (have H2_ := (Option.bind_some _ _).symm.trans H; rw [e_]; with_reducible exact H2_) | (have H2_ := (Option.bind_some _ _).symm.trans H; with_reducible exact H2_) | with_reducible exact H | (rw [e_]; exact H) | exact H) : p := t e h
theorem zK {p : Prop} (h : p := by kernel_rfl) : p := h
theorem zR {p q : Prop} (x : Aside0 q) (h : q → p := by intro x_; (with_reducible repeat (first | apply Kd.R_alloc | apply Kd.R_drewN | apply Kd.R_drew)); exact x_) : p := h x.out
theorem zQ {p q : Prop} (x : Aside0 q) (h : q → p := by intro x_; (with_reducible repeat (first | apply Kd.Q_alloc | apply Kd.Q_drewN | apply Kd.Q_drew)); exact x_) : p := h x.out
theorem zS {p q : Prop} (x : Aside0 q) (h : q → p := by intro x_; (with_reducible repeat (first | apply Kd.S_alloc | apply Kd.S_drewN | apply Kd.S_drew)); exact x_) : p := h x.out
theorem zN {p q : Prop} (x : Aside0 q) (h : q → p := by intro x_; (with_reducible repeat (first | apply Kd.N_alloc | apply Kd.N_drewN | apply Kd.N_drew)); exact x_) : p := h x.out
theorem zV {p q : Prop} (x : Aside0 q) (h : q → p := by intro x_; (with_reducible repeat (first | apply Kd.V_alloc | apply Kd.V_drewN | apply Kd.V_drew)); exact x_) : p := h x.out
theorem zC {p q : Prop} (x : q) (h : q → p := by intro x_; repeat (first | exact x_ | (with_reducible refine Kd.C_alloc ?_ _) | (with_reducible refine Kd.C_drewN ?_ _) | (with_reducible refine Kd.C_drew ?_))) : p := h x
theorem zCB {α : Type} {d : Kd α} {w : World} {A : Option Addr} {n : Nat} {xs : List α} {p : Prop} (x : Aside0 (d.C w A n xs)) (h : (∀ w1, Below w.heap.size w w1 → d.C w1 A n xs) → p := by intro x_; repeat (first | exact x_ _ (by repeat (first | (with_reducible first | exact HB.out | apply bA | apply bN | apply bD) | exact HB.out)) | (with_reducible refine Kd.C_alloc ?_ _) | (with_reducible refine Kd.C_drewN ?_ _) | (with_reducible refine Kd.C_drew ?_))) : p := h (fun _ hb => Kd.C_below x.out hb)
end Go.Proofs.YtdgnekknmpfepaaGreatDoor.P
