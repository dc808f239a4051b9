import Derived.Test.YtpihglokjcbjkaaQCharsRef
import Derived.Test.YtpihglokjcbjkaaQClass
import Derived.Test.YtpihglokjcbjkaaT6
/- The reference's Class is the program's. -/
namespace Go.Proofs.Ytpihglokjcbjkaa.Pure
open Go.RowKit Go.Proofs.Ytpihglokjcbjkaa.P Go.Proofs.YtpihglokjcbjkaaW.PrintWords Go.Proofs.YtpihglokjcbjkaaW.PrintLast
set_option linter.unusedVariables false
set_option linter.unusedSimpArgs false
theorem kind_mark (r : Int) : cKind r = 3 ↔ inR cMAR r = true := by
 unfold cKind
 by_cases h : inR cMAR r = true
 ·have h1 : ¬ inR cLET r = true := by
   simp only [inR, cMAR, cLET, List.any_cons, List.any_nil, Bool.or_eq_true, Bool.and_eq_true, decide_eq_true_eq, Bool.false_eq_true, or_false] at h ⊢
   omega
  have h2 : ¬ inR cDIG r = true := by
   simp only [inR, cMAR, cDIG, List.any_cons, List.any_nil, Bool.or_eq_true, Bool.and_eq_true, decide_eq_true_eq, Bool.false_eq_true, or_false] at h ⊢
   omega
  rw [if_neg h1, if_neg h2, if_pos h]
  exact ⟨fun _ => h, fun _ => rfl⟩
 ·rw [if_neg h]
  refine ⟨fun e => ?_, fun e => absurd e h⟩
  repeat' split at e
  all_goals (first | exact absurd e (by decide))
theorem rclass_ev (r : Int) : Ev (fun k => toponymref03_Class.f k r) (dCls r) := by
 unfold toponymref03_Class.f
 refine Ev.bind (rkind_ev r) ?_
 rw [rKind_cKind]
 refine ev_ite (fun h => ?_) (fun h => ?_)
 ·have hm := (kind_mark r).1 h
  have hj : ∀ b : Bool, (b = true ↔ (r = 807 ∨ r = 808)) → Ev (fun k => toponymref03_Class.j0 k r b) (dCls r) := by
   intro b hb
   refine Ev.step (fun k => by simp only [toponymref03_Class.j0]; rfl) ?_
   have hv : dCls r = (if r = 807 ∨ r = 808 then 202 else if r = 803 then 220 else if r ≥ 12441 then 8 else 230) := by
    unfold dCls
    rw [if_pos hm]
   refine ev_bool (fun h => ev_some (by rw [hv, if_pos (hb.1 h)])) (fun h => ?_)
   have n1 : ¬ (r = 807 ∨ r = 808) := fun e => by rw [hb.2 e] at h; cases h
   refine ev_ite (fun e => ev_some (by rw [hv, if_neg n1, if_pos e])) (fun e => ?_)
   simp only [inR, cMAR, List.any_cons, List.any_nil, Bool.or_eq_true, Bool.and_eq_true, decide_eq_true_eq, Bool.false_eq_true, or_false] at hm
   refine ev_ite (fun e2 => ev_some (by rw [hv, if_neg n1, if_neg e, if_pos (by omega)])) (fun e2 => ?_)
   refine ev_ite (fun e3 => ev_some (by rw [hv, if_neg n1, if_neg e, if_pos (by omega)])) (fun e3 => ?_)
   exact ev_some (by rw [hv, if_neg n1, if_neg e, if_neg (by omega)])
  refine ev_ite (fun g => hj _ (by simp [g])) (fun g => hj _ (by simp [g]))
 ·refine ev_some ?_
  unfold dCls
  rw [if_neg (fun e => h ((kind_mark r).2 e))]
end Go.Proofs.Ytpihglokjcbjkaa.Pure
