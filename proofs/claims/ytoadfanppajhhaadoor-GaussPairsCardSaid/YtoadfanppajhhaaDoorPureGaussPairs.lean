import Derived.Test.YtoadfanppajhhaaDoorQGaussOps
import Derived.Test.YtoadfanppajhhaaDoorQGaussAwake
import Derived.Test.YtoadfanppajhhaaDoorP1
import Derived.Test.YtoadfanppajhhaaDoorP5
/- GaussPairs: any two numbers are multiplied, and ordered, as the document says, or refused; no condition. -/
namespace Go.Proofs.YtoadfanppajhhaaDoor.Pure
open Go.RowKit Go.Proofs.YtoadfanppajhhaaDoor.P Go.Proofs.YtoadfanppajhhaaDoorW.PrintWords Go.Proofs.YtoadfanppajhhaaDoorW.PrintLast
set_option linter.unusedVariables false
set_option linter.unusedSimpArgs false
theorem times_is {v u : Option (Int × Int)} : toponymlaw14_is.f (ztimes v u).1 (rtimes v u).1 (rtimes v u).2.1 = some true ∧ (ztimes v u).2 = (rtimes v u).2.2 := by
 rcases v with _ | p
 ·exact ⟨is_ev zero_wh zero_wh, rfl⟩
 ·rcases u with _ | q
  ·exact ⟨is_ev zero_wh zero_wh, rfl⟩
  ·unfold ztimes rtimes
   dsimp only
   by_cases c : fits (zm p q) = true
   ·rw [if_pos c, if_pos c]
    unfold fits at c
    simp only [Bool.and_eq_true, decide_eq_true_eq] at c
    exact ⟨is_ev (flt_wh c.1) (flt_wh c.2), rfl⟩
   ·rw [if_neg c, if_neg c]
    exact ⟨is_ev zero_wh zero_wh, rfl⟩
theorem GaussPairs (a b c d : Nat) : ∃ k, toponymlaw14_GaussPairs.f k a b c d = some true := by
 refine Ev.rounds ?_
 show Ev (fun k => toponymlaw14_GaussPairs.f k a b c d) true
 obtain ⟨v, hv⟩ := zh_any (a, b)
 obtain ⟨u, hu⟩ := zh_any (c, d)
 unfold toponymlaw14_GaussPairs.f
 refine ev_bind0 (z_ev a b) (ev_bind0 (z_ev c d) (Ev.bind (times_ev hv hu) (ev_bind0 (r_ev a b) (ev_bind0 (r_ev c d) (Ev.bind (rtimes_ev hv hu) ?_)))))
 refine ev_bind0 times_is.1 (ev_pos rfl (ev_pos times_is.2 ?_))
 refine ev_bind0 (z_ev a b) (ev_bind0 (z_ev c d) (Ev.bind (zcmp_ev hv hu) (ev_bind0 (r_ev a b) (ev_bind0 (r_ev c d) (ev_bind0 (rcmp_ev hv hu) (ev_pos rfl fin14))))))
end Go.Proofs.YtoadfanppajhhaaDoor.Pure
