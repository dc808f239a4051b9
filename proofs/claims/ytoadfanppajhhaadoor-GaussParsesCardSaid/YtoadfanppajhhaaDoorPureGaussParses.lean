import Derived.Test.YtoadfanppajhhaaDoorQGaussOps
import Derived.Test.YtoadfanppajhhaaDoorQGaussAwake
import Derived.Test.YtoadfanppajhhaaDoorP1
import Derived.Test.YtoadfanppajhhaaDoorP2
import Derived.Test.YtoadfanppajhhaaDoorP3
import Derived.Test.YtoadfanppajhhaaDoorP4
/- GaussParses: any text is the document's number, or none's; no condition. -/
namespace Go.Proofs.YtoadfanppajhhaaDoor.Pure
open Go.RowKit Go.Proofs.YtoadfanppajhhaaDoor.P Go.Proofs.YtoadfanppajhhaaDoorW.PrintWords Go.Proofs.YtoadfanppajhhaaDoorW.PrintLast
set_option linter.unusedVariables false
set_option linter.unusedSimpArgs false
theorem parse_same (s : ByteArray) (hz : s.size < 4611686018427387904) : ∃ r t, Ev (fun k => gauss_Parse.f k s) r ∧ Ev (fun k => toponymref14_Parse.f k s) t ∧ toponymlaw14_is.f r.1 t.1 t.2.1 = some true ∧ r.2 = t.2.2 := by
 obtain ⟨r, e1, t1⟩ := parse_any s
 obtain ⟨t, e2, t2⟩ := rparse_any s hz
 rcases t1 with rfl | ⟨a, b, ha, hb, hs, rfl⟩
 ·rcases t2 with rfl | ⟨a, b, ha, hb, hs, rfl⟩
  ·exact ⟨_, _, e1, e2, is_ev zero_wh zero_wh, rfl⟩
  ·have := parse_txt ha hb
   rw [hs] at this
   have := ev_one e1 this
   exact absurd (congrArg (·.2) this) (by simp)
 ·have := rparse_txt ha hb
  rw [hs] at this
  exact ⟨_, _, e1, this, is_ev (flt_wh ha) (flt_wh hb), rfl⟩
theorem GaussParses : toponymlaw14_GaussParses.Pure := by
 intro s hs
 refine Ev.rounds ?_
 show Ev (fun k => toponymlaw14_GaussParses.f k s) true
 obtain ⟨r, t, e1, e2, h1, h2⟩ := parse_same s (by omega)
 unfold toponymlaw14_GaussParses.f
 exact Ev.bind e1 (Ev.bind e2 (ev_bind0 h1 (ev_pos rfl (ev_pos h2 fin14))))
end Go.Proofs.YtoadfanppajhhaaDoor.Pure
