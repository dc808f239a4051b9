import Derived.Test.YtbffakgmlgimeaaQPair
import Derived.Test.YtbffakgmlgimeaaQEq
import Derived.Test.YtbffakgmlgimeaaP8
/- compose.All, Whole. -/
namespace Go.Proofs.Ytbffakgmlgimeaa.Pure
open Go.RowKit Go.Proofs.Ytbffakgmlgimeaa.P Go.Proofs.YtbffakgmlgimeaaW.PrintWords Go.Proofs.YtbffakgmlgimeaaW.PrintLast Go.Proofs.YtbffakgmlgimeaaW.PrintMore
open Hangul
set_option linter.unusedVariables false
set_option linter.unusedSimpArgs false
def mostOf (U : List Int) : Int := U.foldl (fun m u => mx m (dCls u)) (-1)
theorem mostOf_snoc (U : List Int) (u : Int) : mostOf (U ++ [u]) = mx (mostOf U) (dCls u) := by simp [mostOf]
theorem mostOf_lt (U : List Int) (x : Int) (hx : 0 ≤ x) : mostOf U < x ↔ U.all (fun u => decide (dCls u < x)) = true := by
 suffices H : ∀ n (U : List Int), U.length = n → (mostOf U < x ↔ U.all (fun u => decide (dCls u < x)) = true) from H _ U rfl
 intro n
 induction n with
 | zero => intro U hU; obtain rfl := List.eq_nil_of_length_eq_zero hU; simp [mostOf]; omega
 | succ n ih =>
  intro U hU
  rcases List.eq_nil_or_concat U with rfl | ⟨V, u, rfl⟩
  ·simp at hU
  ·rw [List.concat_eq_append] at *
   have := ih V (by simpa using hU)
   rw [mostOf_snoc, List.all_append]
   simp only [List.all_cons, List.all_nil, Bool.and_true, Bool.and_eq_true, ← this, decide_eq_true_eq]
   unfold mx
   split <;> omega
def cRel (head most : Int) : CSt → Prop
 | (_, none) => head = -1
 | (p, some (h, U)) => head = (p.length : Int) ∧ most = mostOf U
abbrev dRun (l : List Int) (s : CSt) : CSt := cRun dCls cPair l s
abbrev dStepC (s : CSt) (r : Int) : CSt := cStep dCls cPair s r
abbrev dCAll (l : List Int) : List Int := cAll dCls cPair l
theorem cPairP_eq (a b : Int) : cPair a b = if (cPairP a b).2 = true then some (cPairP a b).1 else none := rfl
theorem comp_loop (pre suf : List Int) (s : CSt) (head most : Int) (hr : cRel head most s) (hb : pre.length + suf.length < 1000000) (ho : (cFlat s).length ≤ pre.length) (n : Int) (hn : n = ((pre ++ suf).length : Int)) :
  Ev (fun k => compose_All.l0 k (cFlat s) head most (pre ++ suf) n (pre.length : Int)) (cFlat (dRun suf s)) := by
 induction suf generalizing pre s head most with
 | nil =>
  refine Ev.step (fun k => by simp only [compose_All.l0]; rfl) ?_
  exact ev_neg (by subst hn; simp) (ev_some rfl)
 | cons a t ih =>
  refine Ev.step (fun k => by simp only [compose_All.l0]; rfl) ?_
  refine ev_pos (by rw [hn]; exact mid_lt pre a t) (ev_pos (by omega) (ev_pos (mid_lt pre a t) ?_))
  rw [rd_mid]
  simp only [List.length_cons] at hb
  refine Ev.bind (class_ev a) ?_
  have hc := dCls_pos a
  have next : ∀ (head' most' : Int) (out : List Int) (i : Int), out = cFlat (dStepC s a) → cRel head' most' (dStepC s a) → i = (pre.length : Int) + 1 →
    Ev (fun k => compose_All.l0 k out head' most' (pre ++ a :: t) n i) (cFlat (dRun (a :: t) s)) := by
   intro head' most' out i e1 e2 e3
   have hl : (cFlat (dStepC s a)).length ≤ (cFlat s).length + 1 := cStep_length (c := dCls) (pr := cPair) s a
   have := ih (pre ++ [a]) (dStepC s a) head' most' e2 (by simp; omega) (by simp; omega) (by rw [hn]; simp)
   subst e1
   rw [e3, ← len_snoc pre a, mid_snoc pre]
   exact this
  have hi : wrap64 ((pre.length : Int) + 1) = (pre.length : Int) + 1 := w64 (by omega) (by omega)
  have push : ∀ _ : Nat, (∀ p h U, s = (p, some (h, U)) → cTry dCls cPair h U a = none) → Ev (fun k => if (cFlat s).length < 35184372088832 then ((some (cFlat s ++ [a] : List Int)).bind fun y412 => (if dCls a = 0 then (compose_All.l0 k y412 (wrap64 ((y412.length : Int) - 1)) (-1) (pre ++ a :: t) n (wrap64 ((pre.length : Int) + 1))) else (compose_All.l0 k y412 head (mx most (dCls a)) (pre ++ a :: t) n (wrap64 ((pre.length : Int) + 1))))) else none) (cFlat (dRun (a :: t) s)) := by
   intro _ hno
   refine ev_pos (by omega) ?_
   refine ev_bind0 rfl ?_
   have hf := (cFlat_push (c := dCls) (pr := cPair) s a hno).symm
   refine ev_ite (fun g => ?_) (fun g => ?_)
   ·refine next _ _ _ _ hf ?_ hi
    have hlen : ((cFlat s ++ [a]).length : Int) = (cFlat s).length + 1 := by simp
    rw [w64 (by omega) (by omega)]
    obtain ⟨p, _ | ⟨h, U⟩⟩ := s
    ·show cRel _ _ (cStep dCls cPair (p, none) a)
     rw [cStep_none, if_pos g]
     exact ⟨by simp [cFlat], rfl⟩
    ·show cRel _ _ (cStep dCls cPair (p, some (h, U)) a)
     rw [cStep_no (hno _ _ _ rfl), if_pos g]
     exact ⟨by simp [cFlat]; omega, rfl⟩
   ·refine next _ _ _ _ hf ?_ hi
    obtain ⟨p, _ | ⟨h, U⟩⟩ := s
    ·show cRel _ _ (cStep dCls cPair (p, none) a)
     rw [cStep_none, if_neg g]
     exact hr
    ·show cRel _ _ (cStep dCls cPair (p, some (h, U)) a)
     rw [cStep_no (hno _ _ _ rfl), if_neg g]
     exact ⟨hr.1, by rw [mostOf_snoc, ← hr.2]⟩
  obtain ⟨p, _ | ⟨h, U⟩⟩ := s
  ·have hh : head = -1 := hr
   refine ev_neg (by omega) ?_
   refine Ev.step (fun k => by simp only [compose_All.j1]; rfl) ?_
   exact ev_neg (by simp) (push 0 (fun _ _ _ e => by cases e))
  ·obtain ⟨h1, h2⟩ := hr
   refine ev_pos (by omega) ?_
   refine Ev.step (fun k => by simp only [compose_All.j1]; rfl) ?_
   have hlt : (p.length : Int) < ((p ++ h :: U).length : Int) := mid_lt p h U
   refine ev_ite (fun g => ?_) (fun g => ?_)
   ·have g' : U.all (fun u => decide (dCls u < dCls a)) = true := (mostOf_lt U _ hc).1 (by rw [← h2]; simpa using g)
    refine ev_pos (by omega) (ev_pos (by rw [h1]; exact hlt) ?_)
    have e : rd (cFlat ((p, some (h, U)) : CSt)) head = h := by rw [h1]; exact rd_mid p h U
    rw [e]
    refine Ev.bind (pair_ev h a) ?_
    refine ev_ite (fun f => ?_) (fun f => ?_)
    ·have ht : cTry dCls cPair h U a = some (cPairP h a).1 := by unfold cTry; rw [if_pos g', cPairP_eq, if_pos f]
     refine next _ _ _ _ ?_ ?_ hi
     ·show _ = cFlat (cStep dCls cPair (p, some (h, U)) a)
      rw [cStep_yes ht, h1]
      simp [cFlat]
     ·show cRel _ _ (cStep dCls cPair (p, some (h, U)) a)
      rw [cStep_yes ht]
      exact ⟨h1, h2⟩
    ·refine push 0 (fun _ _ _ e => ?_)
     cases e
     unfold cTry
     rw [if_pos g', cPairP_eq, if_neg f]
   ·refine push 0 (fun _ _ _ e => ?_)
    cases e
    unfold cTry
    rw [if_neg (fun x => g (by have := (mostOf_lt U _ hc).2 x; rw [← h2] at this; simpa using this))]
theorem comp_ev (l : List Int) (h : l.length < 1000000) : Ev (fun k => compose_All.f k l) (dCAll l) := by
 unfold compose_All.f
 have := comp_loop [] l ([], none) (-1) (-1) rfl (by simpa using h) (by simp [cFlat]) _ rfl
 simpa [cFlat, cAll] using this
end Go.Proofs.Ytbffakgmlgimeaa.Pure
