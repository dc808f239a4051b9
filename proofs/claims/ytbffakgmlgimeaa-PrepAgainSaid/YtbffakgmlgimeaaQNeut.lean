import Derived.Test.YtbffakgmlgimeaaQNfkc

/- A character that joins nothing parts a normal form. -/
namespace Go.Proofs.Ytbffakgmlgimeaa.P
end Go.Proofs.Ytbffakgmlgimeaa.P
namespace Go.Proofs.Ytbffakgmlgimeaa.Pure
open Go.RowKit Go.Proofs.Ytbffakgmlgimeaa.P Go.Proofs.YtbffakgmlgimeaaW.PrintWords Go.Proofs.YtbffakgmlgimeaaW.PrintLast
open Hangul
set_option linter.unusedVariables false
set_option linter.unusedSimpArgs false
set_option maxRecDepth 100000
section
variable {c : Int → Int} {pr : Int → Int → Option Int} {z : Int}
theorem insR_zero (hz : c z = 0) (acc : List Int) : insR c z acc = z :: acc := by
 cases acc with
 | nil => rfl
 | cons a t => rw [insR_cons, if_neg (by simp [wrg, hz])]
theorem insR_mid (hz : c z = 0) (r : Int) (X acc : List Int) : insR c r (X ++ z :: acc) = insR c r X ++ z :: acc := by
 induction X with
 | nil =>
  rw [List.nil_append, insR_cons, if_neg (by simp [wrg, hz]; omega)]
  rfl
 | cons a t ih =>
  rw [List.cons_append, insR_cons, insR_cons, ih]
  split <;> rfl
theorem ordR_mid (hz : c z = 0) (l X acc : List Int) : ordR c l (X ++ z :: acc) = ordR c l X ++ z :: acc := by
 induction l generalizing X with
 | nil => rfl
 | cons a t ih => rw [ordR_cons, ordR_cons, insR_mid hz, ih]
theorem aOrd_mid (hz : c z = 0) (u v : List Int) : aOrd c (u ++ z :: v) = aOrd c u ++ z :: aOrd c v := by
 unfold aOrd
 rw [ordR_append, ordR_cons, insR_zero hz, show z :: ordR c u [] = [] ++ z :: ordR c u [] from rfl, ordR_mid hz]
 simp
def pfx (P : List Int) (z : Int) : CSt → CSt
 | (p, none) => (P, some (z, p))
 | (p, some (h, U)) => (P ++ z :: p, some (h, U))
theorem cFlat_pfx (P : List Int) (s : CSt) : cFlat (pfx P z s) = P ++ z :: cFlat s := by
 rcases s with ⟨p, _ | ⟨h, U⟩⟩
 ·rfl
 ·simp [pfx, cFlat]
theorem cStep_pfx (hz : ∀ r, pr z r = none) (P : List Int) (s : CSt) (r : Int) : cStep c pr (pfx P z s) r = pfx P z (cStep c pr s r) := by
 rcases s with ⟨p, _ | ⟨h, U⟩⟩
 ·have e : cTry c pr z p r = none := by unfold cTry; rw [hz r, ite_self]
  rw [cStep_none, show pfx P z (p, none) = (P, some (z, p)) from rfl, cStep_no e]
  split <;> rfl
 ·rw [show pfx P z (p, some (h, U)) = (P ++ z :: p, some (h, U)) from rfl]
  cases e : cTry c pr h U r with
  | some x => rw [cStep_yes e, cStep_yes e]; rfl
  | none =>
   rw [cStep_no e, cStep_no e]
   split
   ·simp [pfx]
   ·rfl
theorem cRun_pfx (hz : ∀ r, pr z r = none) (P l : List Int) (s : CSt) : cRun c pr l (pfx P z s) = pfx P z (cRun c pr l s) := by
 induction l generalizing s with
 | nil => rfl
 | cons a t ih => rw [cRun_cons, cRun_cons, cStep_pfx hz, ih]
theorem cAll_mid (hc : c z = 0) (h1 : ∀ r, pr z r = none) (h2 : ∀ h, pr h z = none) (u v : List Int) : cAll c pr (u ++ z :: v) = cAll c pr u ++ z :: cAll c pr v := by
 unfold cAll
 rw [cRun_append, cRun_cons]
 have e : cStep c pr (cRun c pr u ([], none)) z = pfx (cFlat (cRun c pr u ([], none))) z ([], none) := by
  rcases cRun c pr u ([], none) with ⟨p, _ | ⟨h, U⟩⟩
  ·rw [cStep_none, if_pos hc]; rfl
  ·have e : cTry c pr h U z = none := by unfold cTry; rw [h2 h, ite_self]
   rw [cStep_no e, if_pos hc]; rfl
 rw [e, cRun_pfx h1, cFlat_pfx]
theorem cRun_closed {Q : Int → Prop} (hq : ∀ h r x, pr h r = some x → Q h → Q r → Q x) (l : List Int) (s : CSt) (hs : ∀ x ∈ cFlat s, Q x) (hl : ∀ x ∈ l, Q x) : ∀ x ∈ cFlat (cRun c pr l s), Q x := by
 induction l generalizing s with
 | nil => exact hs
 | cons a t ih =>
  rw [cRun_cons]
  refine ih _ ?_ (fun x hx => hl x (List.mem_cons_of_mem _ hx))
  have ha := hl a List.mem_cons_self
  rcases s with ⟨p, _ | ⟨h, U⟩⟩
  ·rw [cStep_none]
   split
   ·intro x hx
    rcases List.mem_append.1 hx with hx | hx
    ·exact hs x hx
    ·rw [List.mem_singleton.1 hx]; exact ha
   ·intro x hx
    rcases List.mem_append.1 hx with hx | hx
    ·exact hs x hx
    ·rw [List.mem_singleton.1 hx]; exact ha
  ·have hs' : ∀ x ∈ p ++ h :: U, Q x := hs
   cases e : cTry c pr h U a with
   | some x =>
    rw [cStep_yes e]
    have ex : pr h a = some x := by
     unfold cTry at e
     split at e
     ·exact e
     ·cases e
    intro y hy
    have hy' : y ∈ p ++ x :: U := hy
    rcases List.mem_append.1 hy' with hy' | hy'
    ·exact hs' y (List.mem_append.2 (.inl hy'))
    ·rcases List.mem_cons.1 hy' with rfl | hy'
     ·exact hq h a _ ex (hs' h (by simp)) ha
     ·exact hs' y (by simp [hy'])
   | none =>
    rw [cStep_no e]
    split
    ·intro y hy
     have hy' : y ∈ (p ++ h :: U) ++ [a] := hy
     rcases List.mem_append.1 hy' with hy' | hy'
     ·exact hs' y hy'
     ·rw [List.mem_singleton.1 hy']; exact ha
    ·intro y hy
     have hy' : y ∈ p ++ h :: (U ++ [a]) := hy
     have hy'' : y ∈ (p ++ h :: U) ++ [a] := by simpa using hy'
     rcases List.mem_append.1 hy'' with hy' | hy'
     ·exact hs' y hy'
     ·rw [List.mem_singleton.1 hy']; exact ha
end
structure Neu (z : Int) : Prop where
 cls : dCls z = 0
 stp : dStep true z = [z]
 fst : ∀ r, cPair z r = none
 snd : ∀ h, cPair h z = none
def chkNeu (z : Int) : Bool := decide (hPart z = 0) && decide (dCls z = 0) && decide (dStep true z = [z]) && TRIPLES.all (fun t => decide (t.1 ≠ z))
theorem hJoin_first {a b : Int} (h : (hJoin a b).2 = true) : hPart a = 1 ∨ hPart a = 4 := by
 unfold hJoin at h
 split at h
 ·rename_i c; exact .inl c.1
 ·split at h
  ·rename_i c; exact .inr c.1
  ·cases h
theorem neu_of {z : Int} (h : chkNeu z = true) : Neu z := by
 unfold chkNeu at h
 simp only [Bool.and_eq_true, decide_eq_true_eq, List.all_eq_true] at h
 obtain ⟨⟨⟨h1, h2⟩, h3⟩, h4⟩ := h
 refine ⟨h2, h3, fun r => ?_, fun a => ?_⟩
 ·cases e : cPair z r with
  | none => rfl
  | some x =>
   exfalso
   rcases cPair_join e with g | ⟨g1, g2, g3, g4⟩
   ·have := hJoin_first (a := z) (b := r) (by rw [g])
    omega
   ·have := h4 _ (tri g3 g4).2
    exact this rfl
 ·cases e : cPair a z with
  | none => rfl
  | some x =>
   exfalso
   rcases cPair_join e with g | ⟨g1, g2, g3, g4⟩
   ·have := hJoin_second (a := a) (b := z) (by rw [g])
    omega
   ·omega
theorem neu_four : Neu 32 ∧ Neu 45 ∧ Neu 8208 ∧ Neu 8722 := ⟨neu_of (by decide +kernel), neu_of (by decide +kernel), neu_of (by decide +kernel), neu_of (by decide +kernel)⟩
theorem nRun_mid {z : Int} (hz : Neu z) (u v : List Int) : nRun true (u ++ z :: v) = nRun true u ++ z :: nRun true v := by
 unfold nRun
 rw [dAll_append, dAll_cons, hz.stp, List.singleton_append, aOrd_mid hz.cls]
 exact cAll_mid hz.cls hz.fst hz.snd _ _
theorem nRun_nil : nRun true [] = [] := rfl
theorem nRun_all {Q : Int → Prop} (hq : ∀ h r x, cPair h r = some x → Q h → Q r → Q x) {l : List Int} (hl : ∀ r ∈ l, ∀ x ∈ dStep true r, Q x) : ∀ x ∈ nRun true l, Q x := by
 unfold nRun
 refine cRun_closed hq _ _ (fun x hx => by simp [cFlat] at hx) (fun x hx => ?_)
 obtain ⟨r, hr, hx⟩ := List.mem_flatMap.1 ((aOrd_mem _ _).1 hx)
 exact hl r hr x hx
def Fix (l : List Int) : Prop := nRun true l = l
theorem fix_nil : Fix [] := rfl
theorem split_count {z : Int} : ∀ (a u b v : List Int), a.count z = u.count z → a ++ z :: b = u ++ z :: v → a = u ∧ b = v
 | [], [], b, v, _, h => ⟨rfl, by simpa using h⟩
 | [], x :: u, b, v, hc, h => by
  simp only [List.nil_append, List.cons_append, List.cons.injEq] at h
  rw [← h.1] at hc
  simp at hc
 | y :: a, [], b, v, hc, h => by
  simp only [List.nil_append, List.cons_append, List.cons.injEq] at h
  rw [h.1] at hc
  simp at hc
 | y :: a, x :: u, b, v, hc, h => by
  simp only [List.cons_append, List.cons.injEq] at h
  obtain ⟨rfl, h⟩ := h
  have := split_count a u b v (by simpa [List.count_cons] using hc) h
  exact ⟨by rw [this.1], this.2⟩
theorem nRun_count {z : Int} (hz : Neu z) : ∀ (n : Nat) (l : List Int), l.length ≤ n → l.count z ≤ (nRun true l).count z
 | 0, l, h => by
  obtain rfl := List.length_eq_zero_iff.1 (show l.length = 0 by omega)
  exact Nat.zero_le _
 | n + 1, l, h => by
  by_cases c : z ∈ l
  ·obtain ⟨u, v, rfl⟩ := List.append_of_mem c
   rw [nRun_mid hz]
   simp only [List.length_append, List.length_cons] at h
   have h1 := nRun_count hz n u (by omega)
   have h2 := nRun_count hz n v (by omega)
   simp only [List.count_append, List.count_cons_self]
   omega
  ·rw [List.count_eq_zero.2 c]
   exact Nat.zero_le _
theorem fix_mid {z : Int} (hz : Neu z) {u v : List Int} : Fix (u ++ z :: v) ↔ Fix u ∧ Fix v := by
 unfold Fix
 rw [nRun_mid hz]
 refine ⟨fun h => ?_, fun h => by rw [h.1, h.2]⟩
 have h1 := nRun_count hz _ u (Nat.le_refl _)
 have h2 := nRun_count hz _ v (Nat.le_refl _)
 have h3 := congrArg (List.count z) h
 simp only [List.count_append, List.count_cons_self] at h3
 exact split_count _ _ _ _ (by omega) h
theorem fix_front {z : Int} (hz : Neu z) {v : List Int} : Fix (z :: v) ↔ Fix v := by
 have := fix_mid hz (u := []) (v := v)
 simpa [fix_nil] using this
end Go.Proofs.Ytbffakgmlgimeaa.Pure
