import Derived.Test.YtbffakgmlgimeaaQRange
import Derived.Test.YtbffakgmlgimeaaP6
/- chars.Class. -/
namespace Go.Proofs.Ytbffakgmlgimeaa.Pure
open Go.RowKit Go.Proofs.Ytbffakgmlgimeaa.P Go.Proofs.YtbffakgmlgimeaaW.PrintWords Go.Proofs.YtbffakgmlgimeaaW.PrintLast
set_option linter.unusedVariables false
set_option linter.unusedSimpArgs false
set_option maxRecDepth 100000
def dCls (r : Int) : Int := if inR cMAR r = true then (if r = 807 ∨ r = 808 then 202 else if r = 803 then 220 else if r ≥ 12441 then 8 else 230) else 0
theorem class_ev (r : Int) : Ev (fun k => chars_Class.f k r) (dCls r) := by
 unfold chars_Class.f dCls
 refine ev_bind0 (mark_eq r) ?_
 refine ev_ite (fun h => ?_) (fun h => by rw [if_neg h]; exact Ev.now _)
 rw [if_pos h]
 by_cases c : r = 807
 ·rw [if_pos (Or.inl c)]
  refine ev_pos c ?_
  refine Ev.step (fun k => by simp only [chars_Class.j0]; rfl) ?_
  exact ev_pos (by simp) (Ev.now _)
 ·refine ev_neg c ?_
  refine Ev.step (fun k => by simp only [chars_Class.j0]; rfl) ?_
  by_cases d : r = 808
  ·rw [if_pos (Or.inr d)]
   exact ev_pos (by simp [d]) (Ev.now _)
  ·rw [if_neg (show ¬ (r = 807 ∨ r = 808) from fun e => e.elim c d)]
   refine ev_neg (by simp [d]) ?_
   refine ev_ite (fun e => by rw [if_pos e]; exact Ev.now _) (fun e => ?_)
   rw [if_neg e]
   refine ev_ite (fun e => by rw [if_pos e]; exact Ev.now _) (fun e => by rw [if_neg e]; exact Ev.now _)
end Go.Proofs.Ytbffakgmlgimeaa.Pure
