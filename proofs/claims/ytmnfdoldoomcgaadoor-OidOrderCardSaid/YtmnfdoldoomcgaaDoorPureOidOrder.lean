import Derived.Test.YtmnfdoldoomcgaaDoorQOid
import Derived.Test.YtmnfdoldoomcgaaDoorP2
import Derived.Test.YtmnfdoldoomcgaaDoorP4
/- OidOrder: of any three lists (of at most 1000 numbers each, as the statement has it) the order is one; no condition. -/
namespace Go.Proofs.YtmnfdoldoomcgaaDoor.Pure
open Go.RowKit Go.Proofs.YtmnfdoldoomcgaaDoor.P Go.Proofs.YtmnfdoldoomcgaaDoorW.PrintWords Go.Proofs.YtmnfdoldoomcgaaDoorW.PrintLast
theorem oidOrder_far (a b c : List Int) : Ev (fun k => toponymlaw17_OidOrder.j0 k a b c true) true := by
 refine Ev.step (fun k => by simp only [toponymlaw17_OidOrder.j0]; rfl) ?_
 exact ev_pos trivial (Ev.bind awake17_ev (Ev.now _))
theorem oidOrder_go (a b c : List Int) (ha : a.length ≤ 1000) (hb : b.length ≤ 1000) : Ev (fun k => toponymlaw17_OidOrder.j0 k a b c false) true := by
 refine Ev.step (fun k => by simp only [toponymlaw17_OidOrder.j0]; rfl) (ev_neg (by simp) ?_)
 refine Ev.bind (cmp_ev a b (by omega)) (Ev.bind (cmp_ev b c (by omega)) (Ev.bind (cmp_ev a c (by omega)) (Ev.bind (cmp_ev b a (by omega)) ?_)))
 have hc := lc_cases a b
 refine ev_pos (by rw [w64 (by omega) (by omega)]; exact lc_turn a b) ?_
 refine Ev.bind (same_ev a b (by omega)) (ev_pos ?_ ?_)
 ·rw [beq_iff_eq, Bool.eq_iff_iff]
  simp only [beq_iff_eq, decide_eq_true_eq]
  exact ⟨lc_zero, fun e => by rw [e, lc_self]⟩
 have fin : Ev (fun k => (toponymlaw17_awake.f k).bind fun t => some t) true := Ev.bind awake17_ev (Ev.now _)
 refine ev_ite (fun _ => fin) (fun h1 => ev_ite (fun _ => fin) (fun h2 => ev_pos ?_ fin))
 exact lc_trans (by omega : lc a b ≤ 0) (by omega)
theorem OidOrder : toponymlaw17_OidOrder.Pure := by
 intro a b c _ _ _ _ _ _ _ _ _
 refine Ev.rounds ?_
 unfold toponymlaw17_OidOrder.f
 refine ev_ite (fun _ => oidOrder_far a b c) (fun h0 => ev_ite (fun _ => oidOrder_far a b c) (fun h1 => ?_))
 by_cases h2 : (c.length : Int) > 1000
 ·rw [decide_eq_true h2]; exact oidOrder_far a b c
 ·rw [decide_eq_false h2]; exact oidOrder_go a b c (by omega) (by omega)
end Go.Proofs.YtmnfdoldoomcgaaDoor.Pure
