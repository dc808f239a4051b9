import Derived.Test.YtmnfdoldoomcgaaDoorQOidText
import Derived.Test.YtmnfdoldoomcgaaDoorP2
import Derived.Test.YtmnfdoldoomcgaaDoorP3
/- OidBack: an identifier (of a list of at most 1000 numbers, as the statement has it) is read as it was written; any text that is read is its identifier's; no condition. -/
namespace Go.Proofs.YtmnfdoldoomcgaaDoor.Pure
open Go.RowKit Go.Proofs.YtmnfdoldoomcgaaDoor.P Go.Proofs.YtmnfdoldoomcgaaDoorW.PrintWords Go.Proofs.YtmnfdoldoomcgaaDoorW.PrintLast
theorem oidBack_text (s : ByteArray) : Ev (fun k => toponymlaw17_OidBack.j0 k s) true := by
 have fin : Ev (fun k => (toponymlaw17_awake.f k).bind fun t => some t) true := Ev.bind awake17_ev (Ev.now _)
 refine Ev.step (fun k => by simp only [toponymlaw17_OidBack.j0]; rfl) ?_
 obtain ⟨r, e1, _, ht⟩ := parse_same s
 refine Ev.bind e1 ?_
 rcases ht with rfl | ⟨l, hv, hx, rfl⟩
 ·exact ev_neg (by decide) (ev_pos rfl (ev_pos rfl fin))
 ·have hl := ((vld_iff l).1 hv).2.1
  refine ev_pos rfl (Ev.bind (show_ev l (by omega)) ?_)
  unfold oShow
  rw [if_pos hv]
  exact ev_pos ((bt_txt _ _).2 hx) (ev_pos rfl fin)
theorem OidBack : toponymlaw17_OidBack.Pure := by
 intro l s _ _ _ _
 refine Ev.rounds ?_
 unfold toponymlaw17_OidBack.f
 refine ev_ite (fun _ => Ev.bind awake17_ev (Ev.now _)) (fun h => Ev.bind (show_ev l (by omega)) ?_)
 unfold oShow
 by_cases hv : vld l = true
 ·rw [if_pos hv]
  refine ev_pos rfl (Ev.bind (parse_txt hv) (ev_pos rfl (Ev.bind (same_ev l l (by omega)) (ev_pos (by simp) ?_))))
  exact oidBack_text s
 ·rw [if_neg hv]
  exact ev_neg (by decide) (oidBack_text s)
end Go.Proofs.YtmnfdoldoomcgaaDoor.Pure
