import Derived.Test.YtbffakgmlgimeaaQOrd
/- What goes together, put together, as plain lists ('c' tells a class, 'pr' what two make). -/
namespace Go.Proofs.Ytbffakgmlgimeaa.Pure
set_option linter.unusedVariables false
section
variable (c : Int → Int) (pr : Int → Int → Option Int)
abbrev CSt := List Int × Option (Int × List Int)
def cTry (h : Int) (U : List Int) (r : Int) : Option Int := if U.all (fun u => decide (c u < c r)) = true then pr h r else none
def cStep (s : CSt) (r : Int) : CSt :=
 match s with
 | (p, none) => if c r = 0 then (p, some (r, [])) else (p ++ [r], none)
 | (p, some (h, U)) => match cTry c pr h U r with
  | some x => (p, some (x, U))
  | none => if c r = 0 then (p ++ h :: U, some (r, [])) else (p, some (h, U ++ [r]))
def cFlat : CSt → List Int
 | (p, none) => p
 | (p, some (h, U)) => p ++ h :: U
def cRun (l : List Int) (s : CSt) : CSt := l.foldl (cStep c pr) s
def cAll (l : List Int) : List Int := cFlat (cRun c pr l ([], none))
variable {c pr}
theorem cStep_none (p : List Int) (r : Int) : cStep c pr (p, none) r = if c r = 0 then (p, some (r, [])) else (p ++ [r], none) := rfl
theorem cStep_yes {p : List Int} {h : Int} {U : List Int} {r x : Int} (e : cTry c pr h U r = some x) : cStep c pr (p, some (h, U)) r = (p, some (x, U)) := by
 unfold cStep; simp only [e]
theorem cStep_no {p : List Int} {h : Int} {U : List Int} {r : Int} (e : cTry c pr h U r = none) : cStep c pr (p, some (h, U)) r = if c r = 0 then (p ++ h :: U, some (r, [])) else (p, some (h, U ++ [r])) := by
 unfold cStep; simp only [e]
theorem cRun_snoc (l : List Int) (r : Int) (s : CSt) : cRun c pr (l ++ [r]) s = cStep c pr (cRun c pr l s) r := by simp [cRun]
theorem cRun_append (l m : List Int) (s : CSt) : cRun c pr (l ++ m) s = cRun c pr m (cRun c pr l s) := by simp [cRun]
theorem cRun_cons (a : Int) (m : List Int) (s : CSt) : cRun c pr (a :: m) s = cRun c pr m (cStep c pr s a) := rfl
theorem cFlat_push (s : CSt) (r : Int) (h : ∀ p hd U, s = (p, some (hd, U)) → cTry c pr hd U r = none) : cFlat (cStep c pr s r) = cFlat s ++ [r] := by
 obtain ⟨p, _ | ⟨hd, U⟩⟩ := s
 ·rw [cStep_none]; split <;> rfl
 ·rw [cStep_no (h _ _ _ rfl)]; split <;> simp [cFlat]
theorem cStep_length (s : CSt) (r : Int) : (cFlat (cStep c pr s r)).length ≤ (cFlat s).length + 1 := by
 obtain ⟨p, _ | ⟨hd, U⟩⟩ := s
 ·rw [cFlat_push _ _ (fun _ _ _ e => by cases e)]; simp
 ·cases e : cTry c pr hd U r with
  | none => rw [cFlat_push _ _ (fun _ _ _ e' => by cases e'; exact e)]; simp
  | some x => rw [cStep_yes e]; simp [cFlat]
theorem cRun_length (l : List Int) (s : CSt) : (cFlat (cRun c pr l s)).length ≤ (cFlat s).length + l.length := by
 induction l generalizing s with
 | nil => simp [cRun]
 | cons a t ih =>
  have := ih (cStep c pr s a)
  have := cStep_length (c := c) (pr := pr) s a
  rw [cRun_cons]; simp only [List.length_cons]; omega
theorem cAll_length (l : List Int) : (cAll c pr l).length ≤ l.length := by
 have := cRun_length (c := c) (pr := pr) l ([], none)
 simpa [cAll, cFlat] using this
structure CLawsOf (c : Int → Int) (pr : Int → Int → Option Int) : Prop where
 pos : ∀ r, 0 ≤ c r
 zero : ∀ h r x, pr h r = some x → c x = 0
 top : ∀ h s x u y, pr h s = some x → pr x u = some y → 0 < c u → ¬ c u < c s
 new : ∀ h s x p, pr h s = some x → pr p x = none
structure CInv (s : CSt) : Prop where
 again : ∀ p, s = (p, none) → cRun c pr p ([], none) = (p, none)
 ahead : ∀ p h U, s = (p, some (h, U)) → c h = 0 ∧ ∃ t, cRun c pr p ([], none) = t ∧ cFlat t = p ∧ cStep c pr t h = (p, some (h, []))
 mark : ∀ p h U, s = (p, some (h, U)) → (∀ u ∈ U, 0 < c u) ∧ ∀ U1 u U2, U = U1 ++ u :: U2 → cTry c pr h U1 u = none
theorem cRun_marks (p : List Int) (h : Int) (V U : List Int) (hp : ∀ u ∈ U, 0 < c u) (hn : ∀ U1 u U2, U = U1 ++ u :: U2 → cTry c pr h (V ++ U1) u = none) : cRun c pr U (p, some (h, V)) = (p, some (h, V ++ U)) := by
 induction U generalizing V with
 | nil => simp [cRun]
 | cons u t ih =>
  have hu := hp u (by simp)
  have e := hn [] u t rfl
  rw [List.append_nil] at e
  rw [cRun_cons, cStep_no e, if_neg (by omega), ih (V ++ [u]) (fun x hx => hp x (by simp [hx])) (fun U1 x U2 hx => by
   have := hn (u :: U1) x U2 (by rw [hx]; rfl)
   simpa using this)]
  simp
theorem CInv.rerun {s : CSt} (hi : CInv (c := c) (pr := pr) s) : cRun c pr (cFlat s) ([], none) = s := by
 obtain ⟨p, _ | ⟨h, U⟩⟩ := s
 ·exact hi.again p rfl
 ·obtain ⟨h0, t, ht, hf, hs⟩ := hi.ahead p h U rfl
  obtain ⟨hp, hn⟩ := hi.mark p h U rfl
  show cRun c pr (p ++ h :: U) ([], none) = _
  rw [cRun_append, cRun_cons, ht, hs, cRun_marks p h [] U hp (by simpa using hn)]
  simp
theorem CInv.step (L : CLawsOf c pr) {s : CSt} (hi : CInv (c := c) (pr := pr) s) (r : Int) : CInv (c := c) (pr := pr) (cStep c pr s r) := by
 have hr := L.pos r
 have hrun := hi.rerun
 obtain ⟨p, _ | ⟨h, U⟩⟩ := s
 ·have e := cStep_none (c := c) (pr := pr) p r
  by_cases g : c r = 0
  ·rw [if_pos g] at e
   have e' := e
   rw [e]
   refine ⟨fun _ h => (by cases h), fun q h U h1 => ?_, fun q h U h1 => ?_⟩
   ·cases h1
    exact ⟨g, _, hrun, rfl, e'⟩
   ·cases h1
    exact ⟨by simp, fun U1 u U2 h2 => by simp at h2⟩
  ·rw [if_neg g] at e
   have e' := e
   rw [e]
   refine ⟨fun q h => ?_, fun q h U h1 => (by cases h1), fun q h U h1 => (by cases h1)⟩
   cases h
   have : cFlat ((p, none) : CSt) = p := rfl
   rw [this] at hrun
   rw [cRun_snoc, hrun, e']
 ·obtain ⟨h0, t, ht, hf, hs⟩ := hi.ahead p h U rfl
  obtain ⟨hp, hn⟩ := hi.mark p h U rfl
  cases e : cTry c pr h U r with
  | none =>
   have e1 := cStep_no (p := p) e
   by_cases g : c r = 0
   ·rw [if_pos g] at e1
    have e' := e1
    rw [e1]
    refine ⟨fun _ h => (by cases h), fun q h U h1 => ?_, fun q h U h1 => ?_⟩
    ·cases h1
     exact ⟨g, _, hrun, rfl, e'⟩
    ·cases h1
     exact ⟨by simp, fun U1 u U2 h2 => by simp at h2⟩
   ·rw [if_neg g] at e1
    rw [e1]
    refine ⟨fun _ h => (by cases h), fun q h' U' h1 => ?_, fun q h' U' h1 => ?_⟩
    ·cases h1
     exact ⟨h0, t, ht, hf, hs⟩
    ·cases h1
     refine ⟨fun u hu => ?_, fun U1 u U2 h2 => ?_⟩
     ·rcases List.mem_append.1 hu with hu | hu
      ·exact hp u hu
      ·simp only [List.mem_singleton] at hu; subst hu; omega
     ·rcases List.eq_nil_or_concat U2 with rfl | ⟨q, b, rfl⟩
      ·have := List.append_inj' h2 rfl
       obtain ⟨rfl, h4⟩ := this
       simp only [List.cons.injEq, and_true] at h4
       subst h4
       exact e
      ·rw [List.concat_eq_append, show U1 ++ u :: (q ++ [b]) = (U1 ++ u :: q) ++ [b] from by simp] at h2
       exact hn U1 u q (List.append_inj' h2 rfl).1
  | some x =>
   have e1 := cStep_yes (p := p) e
   have hpr : pr h r = some x ∧ U.all (fun u => decide (c u < c r)) = true := by
    unfold cTry at e
    split at e
    ·exact ⟨e, ‹_›⟩
    ·cases e
   have hx := L.zero h r x hpr.1
   rw [e1]
   refine ⟨fun _ h => (by cases h), fun q h' U' h1 => ?_, fun q h' U' h1 => ?_⟩
   ·cases h1
    refine ⟨hx, t, ht, hf, ?_⟩
    obtain ⟨q, _ | ⟨h2, U2⟩⟩ := t
    ·rw [cStep_none, if_pos hx]; exact congrArg (·, _) hf
    ·have : cTry c pr h2 U2 x = none := by
      unfold cTry
      rw [L.new h r x h2 hpr.1]
      split <;> rfl
     rw [cStep_no this, if_pos hx]; exact congrArg (·, _) hf
   ·cases h1
    refine ⟨hp, fun U1 u U2 h2 => ?_⟩
    have hu : u ∈ U := by rw [h2]; simp
    have hlt : c u < c r := by simpa using List.all_eq_true.1 hpr.2 u hu
    unfold cTry
    split
    ·cases hy : pr x u with
     | none => rfl
     | some y => exact absurd hlt (L.top h r x u y hpr.1 hy (hp u hu))
    ·rfl
theorem CInv.run (L : CLawsOf c pr) (l : List Int) {s : CSt} (hi : CInv (c := c) (pr := pr) s) : CInv (c := c) (pr := pr) (cRun c pr l s) := by
 induction l generalizing s with
 | nil => exact hi
 | cons a t ih => exact ih (hi.step L a)
theorem CInv.start : CInv (c := c) (pr := pr) ([], none) := ⟨fun p h => (by cases h; rfl), fun p h U h1 => (by cases h1), fun p h U h1 => (by cases h1)⟩
theorem cAll_twice (L : CLawsOf c pr) (l : List Int) : cAll c pr (cAll c pr l) = cAll c pr l := by
 have := (CInv.start.run L l).rerun
 unfold cAll
 rw [this]
theorem cAll_back (L : CLawsOf c pr) (f : Int → List Int) (hf : ∀ h r x, pr h r = some x → f r = [r] → f x = f h ++ [r]) (l : List Int) (hl : ∀ x ∈ l, f x = [x]) (ho : isOrd c l = true) :
  aOrd c ((cAll c pr l).flatMap f) = l := by
 suffices H : ∀ n (l : List Int), l.length = n → (∀ x ∈ l, f x = [x]) → isOrd c l = true → ordR c ((cFlat (cRun c pr l ([], none))).flatMap f) [] = l.reverse ∧ ∀ p h U, cRun c pr l ([], none) = (p, some (h, U)) → ∀ u ∈ U, 0 < c u ∧ f u = [u] by
  unfold aOrd cAll
  rw [(H _ l rfl hl ho).1, List.reverse_reverse]
 intro n
 induction n with
 | zero => intro l hl _ _; obtain rfl := List.eq_nil_of_length_eq_zero hl; exact ⟨rfl, fun p h U h1 => by cases h1⟩
 | succ n ih =>
  intro l hn hl ho
  rcases List.eq_nil_or_concat l with rfl | ⟨m, r, rfl⟩
  ·exact ⟨rfl, fun p h U h1 => by cases h1⟩
  ·rw [List.concat_eq_append] at *
   obtain ⟨e, hU⟩ := ih m (by simpa using hn) (fun x hx => hl x (by simp [hx])) (isOrd_take m [r] ho)
   have hr := hl r (by simp)
   have hc := L.pos r
   have hend : insR c r m.reverse = r :: m.reverse := by
    have h1 := ordR_isOrd _ ho
    rw [ordR_snoc, ordR_isOrd _ (isOrd_take m [r] ho)] at h1
    rw [h1]; simp
   rw [cRun_snoc]
   generalize cRun c pr m ([], none) = s at e hU
   by_cases hno : ∀ p hd U, s = (p, some (hd, U)) → cTry c pr hd U r = none
   ·rw [cFlat_push s r hno]
    refine ⟨?_, ?_⟩
    ·rw [List.flatMap_append, ordR_append, e]
     simp only [List.flatMap_cons, List.flatMap_nil, hr, List.append_nil, ordR_cons, hend]
     simp [ordR]
    ·intro p h U h1
     obtain ⟨q, _ | ⟨h2, U2⟩⟩ := s
     ·rw [cStep_none] at h1
      split at h1
      ·cases h1; simp
      ·cases h1
     ·rw [cStep_no (hno _ _ _ rfl)] at h1
      split at h1
      ·cases h1; simp
      ·cases h1
       intro u hu
       rcases List.mem_append.1 hu with hu | hu
       ·exact hU _ _ _ rfl u hu
       ·simp only [List.mem_singleton] at hu; subst hu
        exact ⟨by omega, hr⟩
   ·obtain ⟨p, _ | ⟨h, U⟩⟩ := s
    ·exact absurd (fun _ _ _ e => by cases e) hno
    ·cases hx : cTry c pr h U r with
     | none => exact absurd (fun _ _ _ e => by cases e; exact hx) hno
     | some x =>
      have hpr : pr h r = some x ∧ U.all (fun u => decide (c u < c r)) = true := by
       unfold cTry at hx
       split at hx
       ·exact ⟨hx, ‹_›⟩
       ·cases hx
      have hUU := hU p h U rfl
      have fU : U.flatMap f = U := by
       have : ∀ V : List Int, (∀ u ∈ V, f u = [u]) → V.flatMap f = V := by
        intro V
        induction V with
        | nil => intro _; rfl
        | cons a t ih => intro hV; simp [hV a (by simp), ih (fun u hu => hV u (by simp [hu]))]
       exact this U (fun u hu => (hUU u hu).2)
      have fx := hf h r x hpr.1 hr
      rw [cStep_yes hx]
      refine ⟨?_, fun _ _ _ h1 => by cases h1; exact hUU⟩
      simp only [cFlat, List.flatMap_append, List.flatMap_cons, fU, fx] at e ⊢
      rw [ordR_append] at e ⊢
      rw [List.append_assoc, ordR_append, show [r] ++ U = r :: U from rfl, ordR_past r U _ (fun u hu => ⟨(hUU u hu).1, by simpa using List.all_eq_true.1 hpr.2 u hu⟩)]
      rw [ordR_append] at e
      rw [ordR_snoc, e, hend]
      simp
end
end Go.Proofs.Ytbffakgmlgimeaa.Pure
