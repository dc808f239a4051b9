import Derived.Test.YtddmaioalilhmaaQBlankRef
import Derived.Test.YtddmaioalilhmaaQSame
import Derived.Test.YtddmaioalilhmaaP8
import Derived.Test.YtddmaioalilhmaaP11
/- BlanksPieces: any numbers are told as a piece of any kind as the document says, and at any place a space stands, or a hyphen, or neither; no condition. -/
namespace Go.Proofs.Ytddmaioalilhmaa.Pure
open Go.RowKit Go.Proofs.Ytddmaioalilhmaa.P Go.Proofs.YtddmaioalilhmaaW.PrintWords Go.Proofs.YtddmaioalilhmaaW.PrintLast
set_option maxRecDepth 100000
theorem pieceB_length (l : List Int) (a b : Bool) : (pieceB l a b).length ≤ 3 * l.length + 2 := by
  have h2 := (join2_size l).1
  unfold pieceB vEdge
  split
  · cases a <;> cases b <;> simp
  · simp only [List.length_append]
    have e1 : ∀ c : Bool, (if c = true then [(32 : Int)] else []).length ≤ 1 := by intro c; cases c <;> simp
    have := e1 a
    have := e1 b
    omega
theorem vPiece_length (kind : Int) (l : List Int) : (vPiece kind l).length ≤ 3 * l.length + 5 := by
  have h1 := vFirm_length l
  unfold vPiece
  split
  · simp
  split
  · have := pieceB_length (vFirm l) true (atS sp (vFirm l) ((vFirm l).length - 1)); omega
  · have := pieceB_length l (atS sp l 0) (decide (kind = 3) || atS sp l (l.length - 1)); omega
theorem BlanksPieces : toponymlaw11_BlanksPieces.Pure := by
  intro kind l i h0 h1 h2 h3 h4
  refine Ev.rounds ?_
  unfold toponymlaw11_BlanksPieces.f
  have aw : Ev (fun k => (toponymlaw11_awake.f k).bind fun t => some t) true := Ev.bind (Ev.of toponymlaw11_awake.mono (k := 100) (by decide +kernel)) (Ev.now _)
  refine ev_ite (fun _ => aw) (fun h => ?_)
  have e1 := vPiece_length kind l
  refine Ev.bind (piece_ev kind l (by omega)) (Ev.bind (rpiece_ev kind l (by omega)) (Ev.bind (same_ev _ _ (by omega)) (ev_pos (by simp) ?_)))
  refine Ev.bind (space_ev l i (by omega)) (Ev.bind (rspace_ev l i (by omega)) (ev_pos (by simp) ?_))
  refine Ev.bind (hyphen_ev l i (by omega)) (Ev.bind (rhyphen_ev l i (by omega)) (ev_pos (by simp) aw))
end Go.Proofs.Ytddmaioalilhmaa.Pure
