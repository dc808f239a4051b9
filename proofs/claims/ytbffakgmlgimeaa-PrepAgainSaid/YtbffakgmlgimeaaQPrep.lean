import Derived.Test.YtbffakgmlgimeaaQNfkcText
import Derived.Test.YtbffakgmlgimeaaQGuardText
import Derived.Test.YtbffakgmlgimeaaQBlankMath
import Derived.Test.YtbffakgmlgimeaaQFoldMap
import Derived.Test.YtbffakgmlgimeaaP1
import Derived.Test.YtbffakgmlgimeaaP11
/- prep: what it tells. -/
namespace Go.Proofs.Ytbffakgmlgimeaa.Pure
open Go.RowKit Go.Proofs.Ytbffakgmlgimeaa.P Go.Proofs.YtbffakgmlgimeaaW.PrintWords Go.Proofs.YtbffakgmlgimeaaW.PrintLast
open Hangul Utf
set_option linter.unusedVariables false
set_option linter.unusedSimpArgs false
set_option maxRecDepth 100000
def pKnown (way : Int) : Bool := decide (1 ≤ way) && decide (way ≤ 4)
theorem known_eq (way : Int) : prep_known.f way = some (pKnown way) := by
 unfold prep_known.f pKnown
 by_cases h : way ≥ 1
 ·simp [h]
 ·simp [h]
def pOut (way : Int) (m : List Int) : List Int :=
 if way = 3 then nRun true (leftS (S := sp) (mk := mkc) m) else if way = 4 then nRun true (leftS (S := fun a => sp a || hyp a) (mk := mkc) m) else vVal m
def pFold (way : Int) : Bool := decide (way = 2) || decide (way = 4)
def pMid (way : Int) (l : List Int) : List Int := nRun true (fMap (pFold way) l)
def pSteps (way : Int) (l : List Int) : List Int × Int :=
 if (chkV (pMid way l)).2 = 0 then (pOut way (pMid way l), 0) else ([], (chkV (pMid way l)).2)
theorem steps0_ev (way : Int) (m : List Int) (h : m.length < 20000) : Ev (fun k => prep_Steps.j0 k way m) (if (chkV (nRun true m)).2 = 0 then (pOut way (nRun true m), 0) else ([], (chkV (nRun true m)).2)) := by
 refine Ev.step (fun k => by simp only [prep_Steps.j0]; rfl) ?_
 have hn := nRun_length true m
 refine Ev.bind (nrunes_ev true m (by omega)) (Ev.bind (check_ev _ (by omega)) ?_)
 by_cases c : (chkV (nRun true m)).2 = 0
 ·rw [if_pos c]
  refine ev_pos c ?_
  unfold pOut
  by_cases c3 : way = 3
  ·rw [if_pos c3]
   refine ev_pos c3 ?_
   have hl := leftS_length (S := sp) (mk := mkc) (nRun true m)
   exact Ev.bind (numeric_ev _ (by omega)) (Ev.bind (nrunes_ev true _ (by omega)) (Ev.now _))
  ·rw [if_neg c3]
   refine ev_neg c3 ?_
   by_cases c4 : way = 4
   ·rw [if_pos c4]
    refine ev_pos c4 ?_
    have hl := leftS_length (S := fun a => sp a || hyp a) (mk := mkc) (nRun true m)
    exact Ev.bind (phone_ev _ (by omega)) (Ev.bind (nrunes_ev true _ (by omega)) (Ev.now _))
   ·rw [if_neg c4]
    exact ev_neg c4 (Ev.bind (value_ev _ (by omega)) (Ev.now _))
 ·rw [if_neg c]
  exact ev_neg c (Ev.now _)
theorem psteps_ev (way : Int) (l : List Int) (hk : pKnown way = true) (h : l.length < 5000) : Ev (fun k => prep_Steps.f k way l) (pSteps way l) := by
 unfold prep_Steps.f
 refine ev_bind0 (known_eq way) (ev_pos hk ?_)
 have hm := fMap_length (pFold way) l
 unfold pSteps pMid
 by_cases c : way = 2
 ·have e : pFold way = true := by simp [pFold, c]
  rw [e] at hm ⊢
  exact ev_pos c (Ev.bind (map_ev true l (by omega)) (steps0_ev way _ (by omega)))
 ·have e : pFold way = (way == 4) := by
   unfold pFold
   by_cases c4 : way = 4
   ·simp [c4]
   ·simp [c, c4]
  rw [e] at hm ⊢
  exact ev_neg c (Ev.bind (map_ev _ l (by omega)) (steps0_ev way _ (by omega)))
def pVal (way : Int) (S : ByteArray) : ByteArray × Int :=
 if pKnown way = true then (if S.size > 1202 then (⟨#[]⟩, 3) else if (rdS S).2.2 = 0 then (if (pSteps way (rdS S).1).2 = 0 then laid (pSteps way (rdS S).1).1 else (⟨#[]⟩, (pSteps way (rdS S).1).2)) else (⟨#[]⟩, (rdS S).2.2)) else (⟨#[]⟩, 2)
theorem pOut_length (way : Int) (m : List Int) : (pOut way m).length ≤ 4 * m.length + 5 := by
 unfold pOut
 split
 ·have := nRun_length true (leftS (S := sp) (mk := mkc) m)
  have hl := leftS_length (S := sp) (mk := mkc) m
  omega
 ·split
  ·have := nRun_length true (leftS (S := fun a => sp a || hyp a) (mk := mkc) m)
   have hl := leftS_length (S := fun a => sp a || hyp a) (mk := mkc) m
   omega
  ·have := vVal_length m
   omega
theorem pval_ev (way : Int) (S : ByteArray) : Ev (fun k => prep_Value.f k way S) (pVal way S) := by
 unfold prep_Value.f pVal
 by_cases hk : pKnown way = true
 ·refine ev_bind0 (known_eq way) (ev_pos hk ?_)
  rw [if_pos hk]
  by_cases hs : S.size > 1202
  ·rw [if_pos hs]
   exact ev_pos (by omega) (Ev.now _)
  ·rw [if_neg hs]
   refine ev_neg (by omega) ?_
   refine Ev.bind (show Ev (fun k => utf_Runes.f k S) (rdS S) from runes_ev (by omega)) ?_
   by_cases c : (rdS S).2.2 = 0
   ·rw [if_pos c]
    refine ev_pos c ?_
    have hl : (rdS S).1.length ≤ 1202 := by
     rcases rdS_form S with ⟨l, g1, g2, g3, g4⟩ | ⟨l, q, g1, g2, g3, g4, g5⟩
     ·rw [g4]
      simp only
      omega
     ·rw [g5]
      simp
    refine Ev.bind (psteps_ev way _ hk (by omega)) ?_
    by_cases c2 : (pSteps way (rdS S).1).2 = 0
    ·rw [if_pos c2]
     refine ev_pos c2 ?_
     refine Ev.bind (encode_ev _ ?_) (Ev.now _)
     unfold pSteps
     split
     ·have h1 := pOut_length way (pMid way (rdS S).1)
      have h2 := nRun_length true (fMap (pFold way) (rdS S).1)
      have h3 := fMap_length (pFold way) (rdS S).1
      unfold pMid at h1 ⊢
      simp only
      omega
     ·simp
    ·rw [if_neg c2]
     exact ev_neg c2 (Ev.now _)
   ·rw [if_neg c]
    exact ev_neg c (Ev.now _)
 ·rw [if_neg hk]
  exact ev_bind0 (known_eq way) (ev_neg hk (Ev.now _))
def pPrep (way : Int) (S : ByteArray) : Bool := decide ((pVal way S).2 = 0) && ((pVal way S).1.toList == S.toList)
theorem prepared_ev (way : Int) (S : ByteArray) : Ev (fun k => prep_Prepared.f k way S) (pPrep way S) := by
 unfold prep_Prepared.f pPrep
 refine Ev.bind (pval_ev way S) ?_
 by_cases c : (pVal way S).2 = 0
 ·exact ev_pos c (ev_some (by simp [c]))
 ·exact ev_neg c (ev_some (by simp [c]))
end Go.Proofs.Ytbffakgmlgimeaa.Pure
