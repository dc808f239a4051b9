import Derived.Test.YtdgnekknmpfepaaGreatDoorQSyntax
import Derived.Test.YtdgnekknmpfepaaGreatDoorP8
/- SyntaxSmall. -/
namespace Go.Proofs.YtdgnekknmpfepaaGreatDoor.Pure
open Go.RowKit Go.Proofs.YtdgnekknmpfepaaGreatDoor.P Go.Proofs.YtdgnekknmpfepaaGreatDoorW.PrintWords Go.Proofs.YtdgnekknmpfepaaGreatDoorW.PrintLast
set_option linter.unusedVariables false
set_option linter.unusedSimpArgs false
theorem SyntaxSmall : toponymlaw19_SyntaxSmall.Pure := by
 intro a b h0 h1
 refine Ev.rounds ?_
 unfold toponymlaw19_SyntaxSmall.f
 obtain ⟨v, e, hv, hf⟩ := int_forms a
 obtain ⟨u, f, hu, hg⟩ := int_forms b
 refine ev_bind0 hv (ev_bind0 hu ?_)
 dsimp only
 have out0 : e = 0 → Ev (fun k => toponymlaw19_SyntaxSmall.j0 k a b v e u true) true := fun he => by
  exact Ev.step (fun k => by simp only [toponymlaw19_SyntaxSmall.j0]; rfl) (ev_bool (b := true) (fun _ => ev_pos he awake19) (fun e => by cases e))
 rcases hf with ⟨he, hA⟩ | ⟨hv0, he⟩
 ·refine ev_pos he ?_
  rcases hg with ⟨hf0, hB⟩ | ⟨hu0, hf0⟩
  ·have ef : (f != 0) = false := by simp [hf0]
   rw [ef]
   refine Ev.step (fun k => by simp only [toponymlaw19_SyntaxSmall.j0]; rfl) ?_
   refine ev_neg (c := false = true) (by decide) (ev_pos ?_ awake19)
   by_cases c : v = u
   ·have hab : a.toList = b.toList := by rw [← hA, ← hB, c]
    simp [c, hab]
   ·have hab : ¬ a.toList = b.toList := fun hab => by
     have : a = b := ints_inj ((toList_iff a b).1 hab)
     subst this
     rw [hv, Option.some.injEq, Prod.mk.injEq] at hu
     exact c hu.1
    have c1 : (v == u) = false := by simpa using c
    have c2 : (a.toList == b.toList) = false := by simpa using hab
    rw [c1, c2]
    rfl
  ·have ef : (f != 0) = true := by simp [hf0]
   rw [ef]
   exact out0 he
 ·refine ev_neg (by omega) ?_
  exact Ev.step (fun k => by simp only [toponymlaw19_SyntaxSmall.j0]; rfl) (ev_bool (b := true) (fun _ => ev_neg (by omega) (ev_pos hv0 (ev_pos he awake19))) (fun e => by cases e))
end Go.Proofs.YtdgnekknmpfepaaGreatDoor.Pure
