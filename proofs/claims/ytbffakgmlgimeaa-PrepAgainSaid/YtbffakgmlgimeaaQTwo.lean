import Derived.Test.YtbffakgmlgimeaaQApart
import Derived.Test.YtbffakgmlgimeaaQComp

/- What two make, apart, is what they are, apart; what is put together, apart and ordered. -/
namespace Go.Proofs.Ytbffakgmlgimeaa.P
end Go.Proofs.Ytbffakgmlgimeaa.P
namespace Go.Proofs.Ytbffakgmlgimeaa.Pure
open Go.RowKit Go.Proofs.Ytbffakgmlgimeaa.P Go.Proofs.YtbffakgmlgimeaaW.PrintWords Go.Proofs.YtbffakgmlgimeaaW.PrintLast
open Hangul
set_option linter.unusedVariables false
set_option linter.unusedSimpArgs false
set_option maxRecDepth 100000
def chkTwo (t : Int × Int × Int) : Bool := decide (dOne false t.2.2 = dAll false [t.1, t.2.1]) && decide (128 ≤ t.2.2)
theorem chkTwo_all : TRIPLES.all chkTwo = true := by decide +kernel
theorem hParts_hApart {r : Int} (h : 44032 ≤ r ∧ r ≤ 55203) : hParts r = hApart r := by
 unfold hParts hApart
 rw [if_pos h]
theorem dStep_syl {b : Bool} {r : Int} (h : 44032 ≤ r ∧ r ≤ 55203) : dStep b r = hApart r := by
 unfold dStep
 rw [if_neg (by omega), if_neg (by have := syl_cls (r := r) (.inr h); omega)]
 unfold dOne
 rw [if_pos h, hParts_hApart h]
theorem dStep_jamo {b : Bool} {r : Int} (h : 4352 ≤ r ∧ r ≤ 4546) : dStep b r = [r] := dStep_plain (by omega) (by
 simp only [inR, dR, List.any_cons, List.any_nil, Bool.or_eq_true, Bool.and_eq_true, decide_eq_true_eq, Bool.false_eq_true, or_false]
 omega)
theorem pair_two {a b x : Int} (h : cPair a b = some x) : dOne false x = dAll false [a, b] ∧ 128 ≤ x := by
 rcases cPair_join h with e | ⟨_, _, e, g⟩
 ·have h2 : (hJoin a b).2 = true := by rw [e]
  obtain ⟨h3, h4, h5⟩ := hJoin_apart h2
  rw [e] at h3 h5
  simp only at h3 h5
  refine ⟨?_, by omega⟩
  have hb : dStep false b = [b] := by
   rcases hJoin_second h2 with f | f
   ·have := hPart_two.1 f; exact dStep_jamo (by omega)
   ·have := hPart_three.1 f; exact dStep_jamo (by omega)
  have ha : dStep false a = hApart a := by
   unfold hJoin at h2
   repeat' split at h2
   ·rename_i c
    have := hPart_one.1 c.1
    rw [dStep_jamo (by omega), hApart_other (by omega)]
   ·rename_i c
    have := hPart_four.1 c.1
    exact dStep_syl this.1
   ·cases h2
  rw [dAll_cons, dAll_cons, ha, hb]
  unfold dOne
  rw [if_pos h5, hParts_hApart h5, h3]
  simp [dAll]
 ·have := List.all_eq_true.1 chkTwo_all _ (tri e g).2
  simp only [chkTwo, Bool.and_eq_true, decide_eq_true_eq] at this
  exact this
theorem pair_step {h r x : Int} (e : cPair h r = some x) (hr : dStep false r = [r]) : dStep false x = dStep false h ++ [r] := by
 obtain ⟨h1, h2⟩ := pair_two e
 have h3 := (cPair_new e 0).1
 rw [dAll_cons, dAll_cons, hr] at h1
 unfold dStep
 rw [if_neg (by omega), if_neg (by omega), h1]
 simp [dAll, dStep]
theorem mark_step (b : Bool) {r : Int} (h : 0 < dCls r) : dStep b r = [r] := by
 unfold dStep
 split
 ·rfl
 ·first | rfl | rw [if_pos h]
theorem comp_back (l : List Int) (ha : dAll false l = l) (ho : isOrd dCls l = true) : aOrd dCls (dAll false (dCAll l)) = l := by
 refine cAll_back cPair_laws (dStep false) (fun h r x e hr => pair_step e hr) l ?_ ho
 have : ∀ m : List Int, dAll false m = m → ∀ x ∈ m, dStep false x = [x] := by
  intro m
  induction m with
  | nil => intro _ x hx; cases hx
  | cons a t ih =>
   intro hm
   rw [dAll_cons] at hm
   have hp := dStep_pos false a
   have ht := (dAll_lens false t).1
   have hlen := congrArg List.length hm
   simp only [List.length_append, List.length_cons] at hlen
   have h1 : (dStep false a).length = 1 := by omega
   obtain ⟨y, hy⟩ := List.length_eq_one_iff.1 h1
   rw [hy] at hm
   simp only [List.cons_append, List.nil_append, List.cons.injEq] at hm
   intro x hx
   rcases List.mem_cons.1 hx with rfl | hx
   ·rw [hy, hm.1]
   ·exact ih hm.2 x hx
 exact this l ha
end Go.Proofs.Ytbffakgmlgimeaa.Pure
