import Derived.Test.YtbffakgmlgimeaaQTwo
import Derived.Test.YtbffakgmlgimeaaQArr
import Derived.Test.YtbffakgmlgimeaaQSame
import Derived.Test.YtbffakgmlgimeaaP5
import Derived.Test.YtbffakgmlgimeaaP6
import Derived.Test.YtbffakgmlgimeaaP9
/- nfkc.Runes and Is: apart, ordered, put together. -/
namespace Go.Proofs.Ytbffakgmlgimeaa.Pure
open Go.RowKit Go.Proofs.Ytbffakgmlgimeaa.P Go.Proofs.YtbffakgmlgimeaaW.PrintWords Go.Proofs.YtbffakgmlgimeaaW.PrintLast
open Hangul
set_option linter.unusedVariables false
set_option linter.unusedSimpArgs false
set_option maxRecDepth 100000
def nRun (b : Bool) (l : List Int) : List Int := dCAll (aOrd dCls (dAll b l))
def lowL (l : List Int) : Bool := l.all (fun r => decide (0 ≤ r) && decide (r < 128))
theorem hPart_low {b : Int} (h : b < 128) : hPart b ≠ 2 ∧ hPart b ≠ 3 := by
 unfold hPart
 constructor
 ·repeat' split
  all_goals omega
 ·repeat' split
  all_goals omega
theorem dCls_low {b : Int} (h : b < 128) : dCls b = 0 := dCls_out (by
 intro m
 simp only [inR, cMAR, List.any_cons, List.any_nil, Bool.or_eq_true, Bool.and_eq_true, decide_eq_true_eq, Bool.false_eq_true, or_false] at m
 omega)
theorem cPair_low (a : Int) {b : Int} (h : b < 128) : cPair a b = none := by
 have hp := hPart_low h
 have hj : (hJoin a b).2 = false := by
  unfold hJoin
  rw [if_neg (fun e => hp.1 e.2), if_neg (fun e => hp.2 e.2)]
 unfold cPair cPairP
 rw [hj, dCls_low h]
 simp
theorem dAll_low (b : Bool) (l : List Int) (h : ∀ r ∈ l, r < 128) : dAll b l = l := by
 induction l with
 | nil => rfl
 | cons a t ih =>
  rw [dAll_cons, ih (fun r hr => h r (by simp [hr]))]
  unfold dStep
  rw [if_pos (h a (by simp))]
  rfl
theorem isOrd_low : ∀ l : List Int, (∀ r ∈ l, r < 128) → isOrd dCls l = true
 | [], _ => rfl
 | [_], _ => rfl
 | a :: b :: t, h => by
  have e : wrg dCls a b = false := by unfold wrg; rw [dCls_low (h b (by simp))]; simp
  unfold isOrd
  rw [e, isOrd_low (b :: t) (fun r hr => h r (by simp at hr ⊢; exact Or.inr hr))]
  rfl
theorem cRun_low (l : List Int) (h : ∀ r ∈ l, r < 128) (s : CSt) : cFlat (cRun dCls cPair l s) = cFlat s ++ l := by
 induction l generalizing s with
 | nil => simp [cRun]
 | cons a t ih =>
  rw [cRun_cons, ih (fun r hr => h r (by simp [hr])), cFlat_push s a (fun p hd U _ => by
   unfold cTry
   split
   ·exact cPair_low hd (h a (by simp))
   ·rfl)]
  simp
theorem nRun_low (b : Bool) (l : List Int) (h : lowL l = true) : nRun b l = l := by
 have h' : ∀ r ∈ l, r < 128 := fun r hr => by
  have := List.all_eq_true.1 h r hr
  simp only [Bool.and_eq_true, decide_eq_true_eq] at this
  exact this.2
 unfold nRun
 rw [dAll_low b l h', aOrd_isOrd l (isOrd_low l h')]
 have := cRun_low l h' ([], none)
 exact this
theorem high_eq (r : Int) : nfkc_plain_1.f r = some (!(decide (0 ≤ r) && decide (r < 128))) := by
 unfold nfkc_plain_1.f
 by_cases h : r < 0
 ·rw [if_pos h, decide_eq_false (show ¬ 0 ≤ r by omega)]; rfl
 ·rw [if_neg h, decide_eq_true (show 0 ≤ r by omega), Bool.true_and]
  by_cases g : r ≥ 128
  ·rw [decide_eq_true g, decide_eq_false (show ¬ r < 128 by omega)]; rfl
  ·rw [decide_eq_false g, decide_eq_true (show r < 128 by omega)]; rfl
theorem plain_loop (pre suf : List Int) (hb : pre.length + suf.length < 1000000) (n : Int) (hn : n = ((pre ++ suf).length : Int)) :
  Ev (fun k => (slices_IndexFunc_rune_rune_nfkc_plain_1.l0 k (pre ++ suf) n (pre.length : Int)).bind fun t => some (decide (t ≥ 0))) (!lowL suf) := by
 induction suf generalizing pre with
 | nil =>
  refine Ev.bind (Ev.step (fun k => by simp only [slices_IndexFunc_rune_rune_nfkc_plain_1.l0]; rfl) (ev_neg (by subst hn; simp) (Ev.now _))) (ev_some (by simp [lowL]))
 | cons a t ih =>
  simp only [List.length_cons] at hb
  by_cases c : (decide (0 ≤ a) && decide (a < 128)) = true
  ·have h1 := ih (pre ++ [a]) (by simp; omega) (by rw [hn]; simp)
   refine Ev.step (g := fun k => (slices_IndexFunc_rune_rune_nfkc_plain_1.l0 k (pre ++ a :: t) n (pre.length : Int)).bind fun t => some (decide (t ≥ 0))) (f := fun k => (slices_IndexFunc_rune_rune_nfkc_plain_1.l0 k ((pre ++ [a]) ++ t) n (((pre ++ [a]).length : Nat) : Int)).bind fun t => some (decide (t ≥ 0))) (fun k => ?_) (ev_eq h1 (by simp [lowL, c]))
   have hx : (pre.length : Int) < n := by rw [hn]; exact mid_lt pre a t
   simp only [slices_IndexFunc_rune_rune_nfkc_plain_1.l0]
   rw [if_pos hx, if_pos (by omega), if_pos (mid_lt pre a t), rd_mid, high_eq, c, w64 (by omega) (by omega), mid_snoc pre, ← len_snoc pre a]
   rfl
  ·have c' := (Bool.not_eq_true _).mp c
   refine Ev.bind (a := (pre.length : Int)) (Ev.step (fun k => by simp only [slices_IndexFunc_rune_rune_nfkc_plain_1.l0]; rfl) ?_) (ev_some ?_)
   ·refine ev_pos (by rw [hn]; exact mid_lt pre a t) (ev_pos (by omega) (ev_pos (mid_lt pre a t) ?_))
    rw [rd_mid]
    refine ev_bind0 (high_eq a) (ev_pos (by rw [c']; rfl) (Ev.now _))
   ·simp only [lowL, List.all_cons, c', Bool.false_and, Bool.not_false]
    simp
theorem plain_ev (l : List Int) (hb : l.length < 1000000) : Ev (fun k => nfkc_plain.f k l) (lowL l) := by
 unfold nfkc_plain.f slices_ContainsFunc_rune_rune_nfkc_plain_1.f slices_IndexFunc_rune_rune_nfkc_plain_1.f
 have := plain_loop [] l (by simpa using hb) _ rfl
 refine ev_eq (Ev.bind (show Ev (fun k => (slices_IndexFunc_rune_rune_nfkc_plain_1.l0 k l (l.length : Int) 0).bind fun t => some (decide (t ≥ 0))) (!lowL l) by simpa using this) (Ev.now _)) (by simp)
theorem nrunes_ev (b : Bool) (l : List Int) (h : l.length < 200000) : Ev (fun k => nfkc_Runes.f k b l) (nRun b l) := by
 unfold nfkc_Runes.f
 refine Ev.bind (plain_ev l (by omega)) ?_
 refine ev_ite (fun c => ?_) (fun _ => ?_)
 ·refine ev_bind0 (show slices_Clone_rune_rune.f l = some l by unfold slices_Clone_rune_rune.f; rw [if_pos (by omega)]) (ev_some (nRun_low b l c).symm)
 ·have hm := dAll_lens b l
  have ho := aOrd_length (c := dCls) (dAll b l)
  refine Ev.bind (dec_all_ev b l (by omega)) (Ev.bind (order_ev _ (by omega)) (Ev.bind (comp_ev _ (by omega)) (Ev.now _)))
theorem nRun_length (b : Bool) (l : List Int) : (nRun b l).length ≤ 4 * l.length := by
 have hm := dAll_lens b l
 have ho := aOrd_length (c := dCls) (dAll b l)
 have hc : (nRun b l).length ≤ (aOrd dCls (dAll b l)).length := cAll_length (c := dCls) (pr := cPair) _
 omega
theorem ord_parts (b : Bool) (l : List Int) : ∀ x ∈ aOrd dCls (dAll b l), dStep b x = [x] ∧ dStep false x = [x] := by
 intro x hx
 obtain ⟨r, _, hx⟩ := List.mem_flatMap.1 ((aOrd_mem _ x).1 hx)
 exact dStep_apart b r x hx
theorem ord_back (b : Bool) (l : List Int) : aOrd dCls (dAll false (nRun b l)) = aOrd dCls (dAll b l) :=
 comp_back _ (dAll_plain (fun x hx => (ord_parts b l x hx).2)) (isOrd_aOrd _)
theorem ord_loose (b : Bool) (l m : List Int) (h : aOrd dCls (dAll false l) = aOrd dCls m) : aOrd dCls (dAll true l) = aOrd dCls (dAll true m) := by
 rw [← dAll_more l]
 exact aOrd_flat_congr (dStep true) (fun r hr => mark_step true hr) h
theorem nRun_false (b : Bool) (l : List Int) : nRun false (nRun b l) = nRun b l := by
 show dCAll (aOrd dCls (dAll false (nRun b l))) = dCAll (aOrd dCls (dAll b l))
 rw [ord_back]
theorem nRun_twice (b : Bool) (l : List Int) : nRun b (nRun b l) = nRun b l := by
 cases b with
 | false => exact nRun_false false l
 | true =>
  show dCAll (aOrd dCls (dAll true (nRun true l))) = dCAll (aOrd dCls (dAll true l))
  rw [ord_loose true (nRun true l) (aOrd dCls (dAll true l)) ((ord_back true l).trans (aOrd_twice _).symm)]
  rw [dAll_plain (fun x hx => (ord_parts true l x hx).1), aOrd_twice]
theorem nRun_apart (b : Bool) (l : List Int) : nRun b (dAll false l) = nRun b l := by
 unfold nRun
 cases b with
 | false => rw [(dAll_twice false l).1]
 | true => rw [dAll_more]
theorem nRun_ordered (b : Bool) (l : List Int) : nRun b (aOrd dCls l) = nRun b l := by
 have : aOrd dCls (dAll b (aOrd dCls l)) = aOrd dCls (dAll b l) := aOrd_flat (dStep b) (fun r hr => mark_step b hr) l
 unfold nRun
 rw [this]
theorem nRun_other (l : List Int) : nRun true (nRun false l) = nRun true l := by
 show dCAll (aOrd dCls (dAll true (nRun false l))) = dCAll (aOrd dCls (dAll true l))
 rw [ord_loose true (nRun false l) (dAll false l) (ord_back false l), dAll_more]
end Go.Proofs.Ytbffakgmlgimeaa.Pure
