import Derived.Test.YtpihglokjcbjkaaQPairRef
import Derived.Test.YtpihglokjcbjkaaQComp
import Derived.Test.YtpihglokjcbjkaaT6
import Derived.Test.YtpihglokjcbjkaaT8
/- The reference's All puts together as the program does. -/
namespace Go.Proofs.Ytpihglokjcbjkaa.Pure
open Go.RowKit Go.Proofs.Ytpihglokjcbjkaa.P Go.Proofs.YtpihglokjcbjkaaW.PrintWords Go.Proofs.YtpihglokjcbjkaaW.PrintLast
open Hangul
set_option linter.unusedVariables false
set_option linter.unusedSimpArgs false
def cShp : CSt → Prop
 | (p, none) => ∀ u ∈ p, 0 < dCls u
 | (_, some (h, U)) => dCls h = 0 ∧ ∀ u ∈ U, 0 < dCls u
theorem cShp_step {s : CSt} (h : cShp s) (r : Int) : cShp (dStepC s r) := by
 have hr := dCls_pos r
 obtain ⟨p, _ | ⟨hd, U⟩⟩ := s
 ·show cShp (cStep dCls cPair (p, none) r)
  rw [cStep_none]
  by_cases g : dCls r = 0
  ·rw [if_pos g]; exact ⟨g, by simp⟩
  ·rw [if_neg g]
   intro u hu
   rcases List.mem_append.1 hu with hu | hu
   ·exact h u hu
   ·simp only [List.mem_singleton] at hu; subst hu; omega
 ·show cShp (cStep dCls cPair (p, some (hd, U)) r)
  cases e : cTry dCls cPair hd U r with
  | some x =>
   rw [cStep_yes e]
   refine ⟨?_, h.2⟩
   unfold cTry at e
   split at e
   ·exact cPair_laws.zero _ _ _ e
   ·cases e
  | none =>
   rw [cStep_no e]
   by_cases g : dCls r = 0
   ·rw [if_pos g]; exact ⟨g, by simp⟩
   ·rw [if_neg g]
    refine ⟨h.1, fun u hu => ?_⟩
    rcases List.mem_append.1 hu with hu | hu
    ·exact h.2 u hu
    ·simp only [List.mem_singleton] at hu; subst hu; omega
theorem free_loop (r : Int) (pre suf : List Int) (hb : pre.length + suf.length < 1000000) :
  Ev (fun k => toponymref07_free.l0 k (pre ++ suf) r (pre.length : Int)) (suf.all (fun u => decide (dCls u < dCls r))) := by
 induction suf generalizing pre with
 | nil =>
  refine Ev.step (fun k => by simp only [toponymref07_free.l0]; rfl) ?_
  exact ev_neg (by simp) (ev_some rfl)
 | cons a t ih =>
  refine Ev.step (fun k => by simp only [toponymref07_free.l0]; rfl) ?_
  refine ev_pos (mid_lt pre a t) (ev_pos (by omega) ?_)
  rw [rd_mid]
  simp only [List.length_cons] at hb
  refine Ev.bind (rclass_ev a) (Ev.bind (rclass_ev r) ?_)
  refine ev_ite (fun h => ev_some (by simp; omega)) (fun h => ?_)
  rw [w64 (by omega) (by omega), mid_snoc pre, ← len_snoc pre a]
  refine ev_eq (ih (pre ++ [a]) (by simp; omega)) ?_
  have : decide (dCls a < dCls r) = true := by simp; omega
  rw [List.all_cons, this, Bool.true_and]
theorem free_ev (r : Int) (l : List Int) (hb : l.length < 1000000) : Ev (fun k => toponymref07_free.f k l r) (l.all (fun u => decide (dCls u < dCls r))) := by
 unfold toponymref07_free.f
 have := free_loop r [] l (by simpa using hb)
 simpa using this
theorem back_loop (l : List Int) (i : Int) (R : List Int) (p V : List Int) (hV : ∀ u ∈ V, 0 < dCls u) (hb : p.length + V.length < 1000000) (out : List Int) (ho : out = p ++ V) (n : Int) (hn : n = (p.length : Int) + V.length - 1)
  (h : Ev (fun k => toponymref07_All.l1 k l out i ((p.length : Int) - 1)) R) : Ev (fun k => toponymref07_All.l1 k l out i n) R := by
 suffices H : ∀ (m : Nat) (V : List Int), V.length = m → (∀ u ∈ V, 0 < dCls u) → p.length + V.length < 1000000 → ∀ (suf : List Int), out = p ++ V ++ suf → Ev (fun k => toponymref07_All.l1 k l out i ((p.length : Int) + V.length - 1)) R by
  have := H _ V rfl hV hb [] (by simpa using ho)
  rw [hn]; exact this
 intro m
 induction m with
 | zero => intro V hm _ _ _ _; obtain rfl := List.eq_nil_of_length_eq_zero hm; simpa using h
 | succ m ih =>
  intro V hm hV hb suf ho
  rcases List.eq_nil_or_concat V with rfl | ⟨W, u, rfl⟩
  ·simp at hm
  ·rw [List.concat_eq_append] at *
   have hu := hV u (by simp)
   have hl : ((W ++ [u]).length : Int) = W.length + 1 := by simp
   have hl2 : (W ++ [u]).length = W.length + 1 := by simp
   refine Ev.step (fun k => by simp only [toponymref07_All.l1]; rfl) ?_
   refine ev_pos (by omega) (ev_pos (by omega) (ev_pos (by rw [ho]; simp; omega) ?_))
   have e : rd out ((p.length : Int) + (W ++ [u]).length - 1) = u := by
    have := rd_mid (p ++ W) u suf
    rw [ho, show (p.length : Int) + (W ++ [u]).length - 1 = ((p ++ W).length : Int) from by simp; omega]
    simpa using this
   rw [e]
   refine Ev.bind (rclass_ev u) (ev_neg (by omega) ?_)
   rw [w64 (by omega) (by omega)]
   have := ih W (by omega) (fun x hx => hV x (by simp [hx])) (by omega) (u :: suf) (by rw [ho]; simp)
   rw [show (p.length : Int) + (W ++ [u]).length - 1 - 1 = (p.length : Int) + W.length - 1 from by omega]
   exact this
theorem rcomp_loop (pre suf : List Int) (s : CSt) (hs : cShp s) (hb : pre.length + suf.length < 900000) (ho : (cFlat s).length ≤ pre.length) :
  Ev (fun k => toponymref07_All.l0 k (pre ++ suf) (cFlat s) (pre.length : Int)) (cFlat (dRun suf s)) := by
 induction suf generalizing pre s with
 | nil =>
  refine Ev.step (fun k => by simp only [toponymref07_All.l0]; rfl) ?_
  exact ev_neg (by simp) (ev_some rfl)
 | cons a t ih =>
  refine Ev.step (fun k => by simp only [toponymref07_All.l0]; rfl) ?_
  refine ev_pos (mid_lt pre a t) ?_
  simp only [List.length_cons] at hb
  rw [w64 (x := ((cFlat s).length : Int) - 1) (by omega) (by omega)]
  have hlt := mid_lt pre a t
  have next : ∀ out, out = cFlat (dStepC s a) → Ev (fun k => toponymref07_All.l0 k (pre ++ a :: t) out (wrap64 ((pre.length : Int) + 1))) (cFlat (dRun (a :: t) s)) := by
   intro out e1
   have hl : (cFlat (dStepC s a)).length ≤ (cFlat s).length + 1 := cStep_length (c := dCls) (pr := cPair) s a
   have := ih (pre ++ [a]) (dStepC s a) (cShp_step hs a) (by simp; omega) (by simp; omega)
   subst e1
   rw [w64 (by omega) (by omega), ← len_snoc pre a, mid_snoc pre]
   exact this
  have push : ∀ _ : Nat, (∀ p h U, s = (p, some (h, U)) → cTry dCls cPair h U a = none) → Ev (fun k => ((some (([a] : List Int) : List Int)).bind fun y286 => (if (cFlat s).length + y286.length < 35184372088832 then (toponymref07_All.l0 k (pre ++ a :: t) (cFlat s ++ y286) (wrap64 ((pre.length : Int) + 1))) else (none)))) (cFlat (dRun (a :: t) s)) := by
   intro _ hno
   refine ev_bind0 rfl (ev_pos (by simp; omega) ?_)
   exact next _ (cFlat_push (c := dCls) (pr := cPair) s a hno).symm
  have rda : rd (pre ++ a :: t) (pre.length : Int) = a := rd_mid pre a t
  have j3no : (∀ p h U, s = (p, some (h, U)) → cTry dCls cPair h U a = none) → ∀ x, Ev (fun k => toponymref07_All.j3 k (pre ++ a :: t) (cFlat s) (pre.length : Int) x false) (cFlat (dRun (a :: t) s)) := by
   intro hno x
   refine Ev.step (fun k => by simp only [toponymref07_All.j3]; rfl) ?_
   refine ev_neg (by simp) (ev_pos (by omega) (ev_pos hlt ?_))
   rw [rda]
   exact push 0 hno
  obtain ⟨p, _ | ⟨h, U⟩⟩ := s
  ·have hl : (cFlat ((p, none) : CSt)) = p := rfl
   rw [hl] at ho j3no ⊢
   refine back_loop _ _ _ [] p hs (by simp; omega) p rfl _ (by simp) ?_
   refine Ev.step (fun k => by simp only [toponymref07_All.l1]; rfl) ?_
   refine ev_neg (by simp) ?_
   refine Ev.step (fun k => by simp only [toponymref07_All.j2]; rfl) ?_
   exact ev_neg (by simp) (j3no (fun _ _ _ e => by cases e) _)
  ·obtain ⟨h0, hU⟩ := hs
   have hl : (cFlat ((p, some (h, U)) : CSt)) = p ++ h :: U := rfl
   rw [hl] at ho j3no push ⊢
   have hlen : (p ++ h :: U).length = p.length + 1 + U.length := by simp; omega
   refine back_loop _ _ _ (p ++ [h]) U hU (by simp; omega) (p ++ h :: U) (by simp) _ (by simp; omega) ?_
   rw [show (((p ++ [h]).length : Nat) : Int) - 1 = (p.length : Int) from by simp]
   refine Ev.step (fun k => by simp only [toponymref07_All.l1]; rfl) ?_
   refine ev_pos (by omega) (ev_pos (by omega) (ev_pos (by omega) ?_))
   rw [rd_mid]
   refine Ev.bind (rclass_ev h) (ev_pos h0 ?_)
   refine Ev.step (fun k => by simp only [toponymref07_All.j2]; rfl) ?_
   refine ev_pos (by omega) ?_
   rw [w64 (x := (p.length : Int) + 1) (by omega) (by omega)]
   refine ev_pos (by omega) (ev_pos (by omega) (ev_pos (by omega) (ev_pos hlt ?_)))
   rw [rda]
   have hd : (p ++ h :: U).drop ((p.length : Int) + 1).toNat = U := by
    rw [show ((p.length : Int) + 1).toNat = (p ++ [h]).length from by (simp <;> omega), show p ++ h :: U = (p ++ [h]) ++ U from by simp, List.drop_left]
   rw [hd]
   refine Ev.bind (free_ev a U (by omega)) ?_
   cases hf : U.all (fun u => decide (dCls u < dCls a)) with
   | false => exact j3no (fun _ _ _ e => by cases e; unfold cTry; rw [hf]; rfl) _
   | true =>
    refine Ev.step (fun k => by simp only [toponymref07_All.j3]; rfl) ?_
    refine ev_pos (by first | rfl | trivial) (ev_pos (by omega) (ev_pos (by omega) (ev_pos (by omega) (ev_pos hlt ?_))))
    rw [rd_mid, rda]
    refine Ev.bind (rpair_ev h a) ?_
    refine ev_ite (fun g => ?_) (fun g => ?_)
    ·have ht : cTry dCls cPair h U a = some (cPairP h a).1 := by unfold cTry; rw [if_pos hf, cPairP_eq, if_pos g]
     refine ev_bind0 rfl (ev_pos (by omega) ?_)
     have htk : (p ++ h :: U).take (p.length : Int).toNat = p := by simp
     rw [htk]
     refine ev_bind0 rfl (ev_pos (by simp; omega) ?_)
     refine ev_bind0 rfl (ev_bind0 rfl (ev_pos (by simp; omega) ?_))
     refine ev_bind0 rfl ?_
     rw [w64 (x := (p.length : Int) + 1) (by omega) (by omega)]
     refine ev_pos (by omega) (ev_pos (by omega) ?_)
     rw [hd]
     refine ev_bind0 rfl (ev_pos (by simp; omega) ?_)
     refine next _ ?_
     show _ = cFlat (cStep dCls cPair (p, some (h, U)) a)
     rw [cStep_yes ht]
     simp [cFlat]
    ·exact push 0 (fun _ _ _ e => by cases e; unfold cTry; rw [if_pos hf, cPairP_eq, if_neg g])
theorem rcomp_ev (l : List Int) (h : l.length < 900000) : Ev (fun k => toponymref07_All.f k l) (dCAll l) := by
 unfold toponymref07_All.f
 have := rcomp_loop [] l ([], none) (by intro u hu; cases hu) (by simpa using h) (by simp [cFlat])
 simpa [cFlat, cAll] using this
end Go.Proofs.Ytpihglokjcbjkaa.Pure
