import Derived.Test.YtddmaioalilhmaaQBlankMath
import Derived.Test.YtddmaioalilhmaaQSame
import Derived.Test.YtddmaioalilhmaaP8
import Derived.Test.YtddmaioalilhmaaP15
/- BlanksAgain: what is told as a value, a number or a piece, told so again, is the same; a phone number, too; a value begins and ends with a space; no condition. -/
namespace Go.Proofs.Ytddmaioalilhmaa.Pure
open Go.RowKit Go.Proofs.Ytddmaioalilhmaa.P Go.Proofs.YtddmaioalilhmaaW.PrintWords Go.Proofs.YtddmaioalilhmaaW.PrintLast
set_option maxRecDepth 100000
theorem BlanksAgain : toponymlaw11_BlanksAgain.Pure := by
  intro kind l h0 h1 h2 h3
  refine Ev.rounds ?_
  unfold toponymlaw11_BlanksAgain.f
  have aw : Ev (fun k => (toponymlaw11_awake.f k).bind fun t => some t) true := Ev.bind (Ev.of toponymlaw11_awake.mono (k := 100) (by decide +kernel)) (Ev.now _)
  refine ev_ite (fun _ => aw) (fun h => ?_)
  have e1 := vVal_length l
  have e2 := vVal_length (vVal l)
  have e3 := leftS_length (S := sp) (mk := mkc) l
  have e4 := leftS_length (S := fun a => sp a || hyp a) (mk := mkc) l
  have e5 := vPiece_length kind l
  have e6 := vPiece_length kind (vPiece kind l)
  have t1 := leftS_length (S := sp) (mk := mkc) (leftS (S := sp) (mk := mkc) l)
  have t2 := leftS_length (S := fun a => sp a || hyp a) (mk := mkc) (leftS (S := fun a => sp a || hyp a) (mk := mkc) l)
  refine Ev.bind (value_ev l (by omega)) (Ev.bind (numeric_ev l (by omega)) (Ev.bind (phone_ev l (by omega)) (Ev.bind (piece_ev kind l (by omega)) ?_)))
  have hv : vVal l = 32 :: (join2 (wds (tg mkc (vFirm l))) ++ [32]) := rfl
  have hlen : ((vVal l).length : Int) = (join2 (wds (tg mkc (vFirm l)))).length + 2 := by rw [hv]; simp; omega
  refine ev_neg (by omega) (ev_pos (by omega) ?_)
  have r0 : rd (vVal l) 0 = 32 := rd_mid [] 32 _
  have r1 : rd (vVal l) (wrap64 ((vVal l).length - 1)) = 32 := by
    rw [w64 (by omega) (by omega), hlen, hv]
    have := rd_mid (32 :: join2 (wds (tg mkc (vFirm l)))) 32 []
    rw [show ((32 :: join2 (wds (tg mkc (vFirm l)))).length : Int) = (join2 (wds (tg mkc (vFirm l)))).length + 2 - 1 from by simp; omega] at this
    simpa using this
  refine ev_pos r0 ?_
  rw [r1, w64 (by omega) (by omega)]
  refine ev_pos (by omega) (ev_pos (by omega) (ev_pos rfl ?_))
  refine Ev.bind (value_ev _ (by omega)) (Ev.bind (same_ev _ _ (by omega)) (ev_pos (by simp [vVal_twice]) ?_))
  refine Ev.bind (piece_ev kind _ (by omega)) (Ev.bind (same_ev _ _ (by omega)) ?_)
  rw [vPiece_twice]
  refine Ev.step (fun k => by simp only [toponymlaw11_BlanksAgain.j0]; rfl) ?_
  refine ev_neg (by simp) ?_
  refine Ev.bind (numeric_ev _ (by omega)) (Ev.bind (same_ev _ _ (by omega)) (ev_pos ?_ ?_))
  · rw [leftS_twice sp_mk]; simp
  refine Ev.bind (phone_ev _ (by omega)) (Ev.bind (same_ev _ _ (by omega)) (ev_pos ?_ aw))
  rw [leftS_twice hyp_mk]; simp
end Go.Proofs.Ytddmaioalilhmaa.Pure
