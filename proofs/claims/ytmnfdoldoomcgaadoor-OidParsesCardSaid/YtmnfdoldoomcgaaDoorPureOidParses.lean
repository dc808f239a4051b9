import Derived.Test.YtmnfdoldoomcgaaDoorQOidText
import Derived.Test.YtmnfdoldoomcgaaDoorP3
/- OidParses: any text is the document's identifier, or none's; no condition. -/
namespace Go.Proofs.YtmnfdoldoomcgaaDoor.Pure
open Go.RowKit Go.Proofs.YtmnfdoldoomcgaaDoor.P Go.Proofs.YtmnfdoldoomcgaaDoorW.PrintWords Go.Proofs.YtmnfdoldoomcgaaDoorW.PrintLast
theorem told_length {s : ByteArray} {r : List Int × Int} (h : told s r) : r.1.length ≤ 1000 := by
 rcases h with rfl | ⟨l, hv, _, rfl⟩
 ·simp
 ·have := ((vld_iff l).1 hv).2.1
  simp only
  omega
theorem OidParses : toponymlaw17_OidParses.Pure := by
 intro s _
 refine Ev.rounds ?_
 unfold toponymlaw17_OidParses.f
 obtain ⟨r, e1, e2, ht⟩ := parse_same s
 have hl := told_length ht
 refine Ev.bind e1 (Ev.bind e2 (Ev.bind (same_ev _ _ (by omega)) (ev_pos (by simp) (ev_pos rfl ?_))))
 exact Ev.bind awake17_ev (Ev.now _)
end Go.Proofs.YtmnfdoldoomcgaaDoor.Pure
