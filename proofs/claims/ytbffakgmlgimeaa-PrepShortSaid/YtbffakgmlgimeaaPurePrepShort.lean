import Derived.Test.YtbffakgmlgimeaaQPrepCost
import Derived.Test.YtbffakgmlgimeaaP12
/- PrepShort. -/
namespace Go.Proofs.Ytbffakgmlgimeaa.Pure
open Go.RowKit Go.Proofs.Ytbffakgmlgimeaa.P Go.Proofs.YtbffakgmlgimeaaW.PrintWords Go.Proofs.YtbffakgmlgimeaaW.PrintLast
open Hangul Utf
set_option linter.unusedVariables false
set_option linter.unusedSimpArgs false
theorem PrepShort : toponymlaw12_PrepShort.Pure := by
 intro way S h0 h1
 refine Ev.rounds ?_
 unfold toponymlaw12_PrepShort.f
 refine ev_ite (fun _ => awake12) (fun hs => ?_)
 refine Ev.bind (pval_ev way S) ?_
 refine ev_ite (fun h => ?_) (fun _ => awake12)
 obtain ⟨l, hp, hk, e, hz, hz2, hf, ho, hv⟩ := pVal_form way S h
 rw [hv]
 have hsz := laid_size ho
 have hb : bts (pOut way (pMid way l)) ≤ 2 + 3 * bts l := by
  have h1 := pOut_bts way (fMap (pFold way) l)
  have h2 := cost_map (pFold way) l hp
  have h3 : pMid way l = nRun true (fMap (pFold way) l) := rfl
  rw [h3]
  omega
 have hrd := rdS_laid ho
 have hr := rdS_laid ho
 unfold rdS at hr
 refine Ev.bind (gtext_ev _ (by omega)) (Ev.bind (ntext_ev true _ (by omega)) ?_)
 have g1 : (gText (strOfNums (enc (pOut way (pMid way l))))).2 = 0 := by
  unfold gText
  rw [hrd]
  simp only [if_true]
  exact chkV_ok (pOut_fit way hf)
 have g2 : nText true (strOfNums (enc (pOut way (pMid way l)))) = (strOfNums (enc (pOut way (pMid way l))), 0) := by
  unfold nText
  rw [hr]
  simp only [if_true]
  rw [show nRun true (pOut way (pMid way l)) = pOut way (pMid way l) from pOut_fix way _]
  exact laid_ok ho
 rw [g2]
 refine ev_pos ?_ (ev_pos g1 (ev_pos rfl (ev_pos rfl awake12)))
 rw [w64 (x := 3 * (S.size : Int)) (by omega) (by omega), w64 (by omega) (by omega)]
 omega
end Go.Proofs.Ytbffakgmlgimeaa.Pure
