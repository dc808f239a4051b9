import Derived.Test.YtbffakgmlgimeaaQPrepCost
import Derived.Test.YtbffakgmlgimeaaP11
/- PrepAgain. -/
namespace Go.Proofs.Ytbffakgmlgimeaa.Pure
open Go.RowKit Go.Proofs.Ytbffakgmlgimeaa.P Go.Proofs.YtbffakgmlgimeaaW.PrintWords Go.Proofs.YtbffakgmlgimeaaW.PrintLast
open Hangul Utf
set_option linter.unusedVariables false
set_option linter.unusedSimpArgs false
theorem sp_isS (x : Int) (h : sp x = true) : isS x = true := by
 rw [sp32 h]
 rfl
theorem ph_isS (x : Int) (h : (sp x || hyp x) = true) : isS x = true := by
 simp only [sp, hyp, isS, Bool.or_eq_true, decide_eq_true_eq] at h ⊢
 omega
theorem stay {S : Int → Bool} (hS : ∀ x, S x = true → isS x = true) (hm : ∀ a, mkc a = true → S a = false) (m : List Int) : leftS (S := S) (mk := mkc) (nRun true (leftS (S := S) (mk := mkc) (nRun true m))) = nRun true (leftS (S := S) (mk := mkc) (nRun true m)) :=
 leftS_stay hS _ _ (Nat.le_refl _) (fun y hy h => parts_noS m y (leftS_mem _ y hy) h) (leftS_twice hm _)
theorem pOut_again (way : Int) (m : List Int) : pOut way (pOut way (nRun true m)) = pOut way (nRun true m) := by
 unfold pOut
 by_cases c3 : way = 3
 ·simp only [if_pos c3]
  rw [stay sp_isS sp_mk, nRun_twice]
 ·simp only [if_neg c3]
  by_cases c4 : way = 4
  ·simp only [if_pos c4]
   rw [stay (S := fun a => sp a || hyp a) ph_isS hyp_mk, nRun_twice]
  ·simp only [if_neg c4]
   exact vVal_twice _
theorem pOut_firm {b : Bool} (way : Int) {m : List Int} (h : ∀ r ∈ m, Firm b r) : ∀ r ∈ pOut way m, Firm b r := by
 unfold pOut
 split
 ·exact firm_closed (fun r hr => h r (leftS_mem m r hr))
 split
 ·exact firm_closed (fun r hr => h r (leftS_mem m r hr))
 ·intro r hr
  rcases vVal_mem m r hr with rfl | hr
  ·exact firm_32 b
  ·exact h r hr
theorem pVal_again {way : Int} {S : ByteArray} (hs : S.size ≤ 300) (h : (pVal way S).2 = 0) : pVal way (pVal way S).1 = ((pVal way S).1, 0) := by
 obtain ⟨l, hp, hk, e, hz, hz2, hf, ho, hv⟩ := pVal_form way S h
 have hsz := laid_size ho
 have hb : bts (pOut way (pMid way l)) ≤ 2 + 3 * bts l := by
  have h1 := pOut_bts way (fMap (pFold way) l)
  have h2 := cost_map (pFold way) l hp
  have h3 : pMid way l = nRun true (fMap (pFold way) l) := rfl
  rw [h3]
  omega
 have hfirm : ∀ r ∈ pOut way (pMid way l), Firm (pFold way) r := pOut_firm way (firm_closed (fMap_firm (fun x hx => by
  have := (hp x hx).1
  omega)))
 have hm : pMid way (pOut way (pMid way l)) = pOut way (pMid way l) := by
  show nRun true (fMap (pFold way) (pOut way (pMid way l))) = _
  rw [fMap_of_firm hfirm]
  exact pOut_fix way _
 have hc : (chkV (pOut way (pMid way l))).2 = 0 := chkV_ok (pOut_fit way hf)
 rw [hv]
 unfold pVal
 rw [if_pos hk, if_neg (by omega), rdS_laid ho, if_pos rfl]
 unfold pSteps
 simp only
 rw [hm, if_pos hc, if_pos rfl, show pOut way (pOut way (pMid way l)) = pOut way (pMid way l) from pOut_again way _]
 exact laid_ok ho
theorem pVal_none {way : Int} {S : ByteArray} (h : (pVal way S).2 ≠ 0) : (pVal way S).1 = ⟨#[]⟩ := by
 unfold pVal at h ⊢
 split
 ·rename_i hk
  rw [if_pos hk] at h
  split
  ·rfl
  ·rename_i hs
   rw [if_neg hs] at h
   split
   ·rename_i c
    rw [if_pos c] at h
    split
    ·rename_i c2
     rw [if_pos c2] at h
     unfold laid at h ⊢
     split
     ·rename_i c3
      rw [if_pos c3] at h
      exact absurd rfl h
     ·rfl
    ·rfl
   ·rfl
 ·rfl
theorem PrepAgain : toponymlaw12_PrepAgain.Pure := by
 intro way S h0 h1
 refine Ev.rounds ?_
 unfold toponymlaw12_PrepAgain.f
 refine ev_ite (fun _ => awake12) (fun hs => ?_)
 refine Ev.bind (pval_ev way S) ?_
 refine ev_ite (fun h => ?_) (fun h => ?_)
 ·have e := pVal_again (by omega) h
  refine Ev.bind (pval_ev way _) ?_
  rw [e]
  refine ev_pos rfl (ev_pos rfl ?_)
  refine Ev.bind (prepared_ev way _) (ev_pos ?_ awake12)
  unfold pPrep
  rw [e]
  simp
 ·rw [pVal_none h]
  exact ev_pos (by decide +kernel) awake12
end Go.Proofs.Ytbffakgmlgimeaa.Pure
