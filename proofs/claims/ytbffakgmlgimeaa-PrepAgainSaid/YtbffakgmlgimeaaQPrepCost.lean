import Derived.Test.YtbffakgmlgimeaaQPrepTab

/- Bytes of what prep tells. -/
namespace Go.Proofs.Ytbffakgmlgimeaa.P
end Go.Proofs.Ytbffakgmlgimeaa.P
namespace Go.Proofs.Ytbffakgmlgimeaa.Pure
open Go.RowKit Go.Proofs.Ytbffakgmlgimeaa.P Go.Proofs.YtbffakgmlgimeaaW.PrintWords Go.Proofs.YtbffakgmlgimeaaW.PrintLast
open Hangul Utf
set_option linter.unusedVariables false
set_option linter.unusedSimpArgs false
set_option maxRecDepth 100000
theorem flg_app (A B : List Int) : flg (A ++ B) ≤ flg A + flg B := by
 cases A with
 | nil => rw [List.nil_append]; exact Nat.le_add_left _ _
 | cons a t =>
  have : flg (a :: t ++ B) = flg (a :: t) := rfl
  omega
theorem cost_app (A B : List Int) : cost (A ++ B) ≤ cost A + cost B := by
 have := flg_app A B
 unfold cost
 rw [bts_append, List.count_append]
 omega
theorem flg_le (l : List Int) : flg l ≤ 1 := by
 unfold flg
 split <;> omega
theorem cost_one (r : Int) : cost [r] ≤ 3 * (enc1 r).length := by
 have h1 := enc1_pos r
 have e1 : bts [r] = (enc1 r).length := by rw [bts_cons, bts_nil]; rfl
 unfold cost
 rw [e1]
 by_cases c : r = 32
 ·subst c
  have : flg [32] = 0 := by decide +kernel
  rw [this]
  simp
  omega
 ·have h2 := flg_le [r]
  have h3 : List.count 32 [r] = 0 := by
   rw [List.count_eq_zero]
   simp
   omega
  omega
theorem jj_bts {x : Int} (h : JJ x) : (enc1 x).length ≤ 3 := enc1_le3 (by unfold JJ at h; omega)
theorem jj_flg {x : Int} (h : JJ x) (t : List Int) : flg (x :: t) = 0 := by
 have := (jamo_at h).1
 have e : mkc x = false := by
  unfold JJ at h
  rw [mkc_false]
  refine dCls_out (fun hm => ?_)
  have := mar_mem hm
  simp only [MARKS, List.mem_cons, List.not_mem_nil, or_false] at this
  omega
 unfold flg
 rw [bare_cons, e]
 rfl
theorem cost_step (r : Int) : cost (dStep true r) ≤ 3 * (enc1 r).length := by
 unfold dStep
 split
 ·exact cost_one r
 split
 ·exact cost_one r
 unfold dOne
 split
 ·rename_i c
  have h3 := enc1_three (r := r) (by omega)
  have hj := hParts_jj c
  unfold hParts at hj ⊢
  split
  ·rename_i e
   rw [if_pos e] at hj
   have a := hj _ (List.mem_cons_self)
   have b := hj _ (List.mem_cons_of_mem _ List.mem_cons_self)
   have ha := jj_bts a
   have hb := jj_bts b
   have hc : List.count 32 [4352 + (r - 44032) / 28 / 21, 4449 + (r - 44032) / 28 % 21] = 0 := by
    rw [List.count_eq_zero]
    simp only [List.mem_cons, List.not_mem_nil, or_false]
    omega
   unfold cost
   rw [hc, jj_flg a, bts_cons, bts_cons, bts_nil]
   omega
  ·rename_i e
   rw [if_neg e] at hj
   have a := hj _ (List.mem_cons_self)
   have b := hj _ (List.mem_cons_of_mem _ List.mem_cons_self)
   have d := hj _ (List.mem_cons_of_mem _ (List.mem_cons_of_mem _ List.mem_cons_self))
   have ha := jj_bts a
   have hb := jj_bts b
   have hd := jj_bts d
   have hc : List.count 32 [4352 + (r - 44032) / 28 / 21, 4449 + (r - 44032) / 28 % 21, 4519 + (r - 44032) % 28] = 0 := by
    rw [List.count_eq_zero]
    simp only [List.mem_cons, List.not_mem_nil, or_false]
    omega
   unfold cost
   rw [hc, jj_flg a, bts_cons, bts_cons, bts_cons, bts_nil]
   omega
 ·split
  ·rename_i d
   have := chkT_at d
   simp only [chkT, Bool.and_eq_true, decide_eq_true_eq] at this
   exact this.2
  ·exact cost_one r
def chkF (r : Int) : Bool := decide (cost (dAll true (fOne r)) ≤ 3 * (enc1 r).length)
theorem dAll_one (r : Int) : dAll true [r] = dStep true r := by rw [dAll_cons]; exact List.append_nil _
theorem chkF_all {r : Int} (h0 : -2147483648 ≤ r) (h1 : r ≤ 2147483647) : chkF r = true := by
 revert h0 h1
 refine by_ranges (p := fun r => -2147483648 ≤ r → r ≤ 2147483647 → chkF r = true) (fun r h h0 h1 => ?_) ?_ ?_ ?_ ?_ r
 ·unfold chkF
  rw [fOne_gap h0 h1 h, dAll_one]
  exact decide_eq_true (cost_step r)
 ·have : ∀ n : Fin 1072, chkF ((n.val : Nat) : Int) = true := by decide +kernel
  exact fun n _ _ => this n
 ·have : ∀ n : Fin 70, chkF ((n.val + 8486 : Nat) : Int) = true := by decide +kernel
  exact fun n _ _ => this n
 ·have : ∀ n : Fin 6, chkF ((n.val + 64256 : Nat) : Int) = true := by decide +kernel
  exact fun n _ _ => this n
 ·have : ∀ n : Fin 26, chkF ((n.val + 65313 : Nat) : Int) = true := by decide +kernel
  exact fun n _ _ => this n
theorem cost_map1 (b : Bool) {r : Int} (h0 : -2147483648 ≤ r) (h1 : r ≤ 2147483647) : cost (dAll true (mOne b r)) ≤ 3 * (enc1 r).length := by
 unfold mOne
 split
 ·exact Nat.zero_le _
 split
 ·rw [dAll_one, show dStep true 32 = [32] from rfl]
  have := enc1_pos r
  have e : cost [32] = 2 := by decide +kernel
  omega
 split
 ·exact of_decide_eq_true (chkF_all h0 h1)
 ·rw [dAll_one]
  exact cost_step r
theorem cost_map (b : Bool) : ∀ (l : List Int), (∀ r ∈ l, pt r) → cost (dAll true (fMap b l)) ≤ 3 * bts l
 | [], _ => Nat.zero_le _
 | a :: t, h => by
  have ha := h a List.mem_cons_self
  have h1 := cost_map1 b (r := a) (by have := ha.1; omega) (by have := ha.1; omega)
  have h2 := cost_map b t (fun r hr => h r (List.mem_cons_of_mem _ hr))
  rw [fMap_cons, dAll_append, bts_cons]
  have := cost_app (dAll true (mOne b a)) (dAll true (fMap b t))
  omega
theorem insR_count (c : Int → Int) (z r : Int) (l : List Int) : (insR c r l).count z = [r].count z + l.count z := by
 induction l with
 | nil => simp [insR]
 | cons a t ih =>
  rw [insR_cons]
  split
  ·rw [show a :: insR c r t = [a] ++ insR c r t from rfl, List.count_append, ih, show a :: t = [a] ++ t from rfl, List.count_append]
   omega
  ·rw [show r :: a :: t = [r] ++ (a :: t) from rfl, List.count_append]
theorem ordR_count (c : Int → Int) (z : Int) (l acc : List Int) : (ordR c l acc).count z = l.count z + acc.count z := by
 induction l generalizing acc with
 | nil => simp [ordR]
 | cons a t ih =>
  rw [ordR_cons, ih, insR_count, show a :: t = [a] ++ t from rfl, List.count_append]
  omega
theorem aOrd_count (c : Int → Int) (z : Int) (l : List Int) : (aOrd c l).count z = l.count z := by
 unfold aOrd
 rw [List.count_reverse, ordR_count]
 simp
theorem cStep_count (s : CSt) (r : Int) : (cFlat (cStep dCls cPair s r)).count 32 ≤ (cFlat s).count 32 + [r].count 32 := by
 rcases s with ⟨p, _ | ⟨h, U⟩⟩
 ·rw [cStep_none]
  split
  ·show (p ++ [r]).count 32 ≤ p.count 32 + _
   rw [List.count_append]
   exact Nat.le_refl _
  ·show (p ++ [r]).count 32 ≤ p.count 32 + _
   rw [List.count_append]
   exact Nat.le_refl _
 ·cases e : cTry dCls cPair h U r with
  | some x =>
   rw [cStep_yes e]
   have ex : cPair h r = some x := by
    unfold cTry at e
    split at e
    ·exact e
    ·cases e
   have hx : x ≠ 32 := fun h => by
    have := pair_noS ex
    rw [h] at this
    cases this
   show (p ++ x :: U).count 32 ≤ (p ++ h :: U).count 32 + _
   rw [List.count_append, List.count_append, List.count_cons_of_ne hx]
   have : U.count 32 ≤ (h :: U).count 32 := List.count_le_count_cons
   omega
  | none =>
   rw [cStep_no e]
   split
   ·show ((p ++ h :: U) ++ [r]).count 32 ≤ (p ++ h :: U).count 32 + _
    rw [List.count_append]
    exact Nat.le_refl _
   ·show (p ++ h :: (U ++ [r])).count 32 ≤ (p ++ h :: U).count 32 + _
    rw [show p ++ h :: (U ++ [r]) = (p ++ h :: U) ++ [r] by simp, List.count_append]
    exact Nat.le_refl _
theorem cRun_count (l : List Int) (s : CSt) : (cFlat (cRun dCls cPair l s)).count 32 ≤ (cFlat s).count 32 + l.count 32 := by
 induction l generalizing s with
 | nil => exact Nat.le_refl _
 | cons a t ih =>
  rw [cRun_cons]
  have h1 := ih (cStep dCls cPair s a)
  have h2 := cStep_count s a
  rw [show a :: t = [a] ++ t from rfl, List.count_append]
  omega
theorem nRun_bts1 (l : List Int) : bts (nRun true l) ≤ bts (dAll true l) := by
 unfold nRun
 have h1 := dCAll_bts (aOrd dCls (dAll true l))
 rw [aOrd_bts] at h1
 exact h1
theorem nRun_cost (l : List Int) : cost (nRun true l) ≤ cost (dAll true l) := by
 have h1 := nRun_bts1 l
 have h2 : (nRun true l).count 32 ≤ (dAll true l).count 32 := by
  have := cRun_count (aOrd dCls (dAll true l)) ([], none)
  rw [aOrd_count, show (cFlat ([], none)).count 32 = 0 from rfl, Nat.zero_add] at this
  exact this
 have h3 : flg (nRun true l) ≤ flg (dAll true l) := by
  unfold flg
  by_cases c : bareL mkc (dAll true l) = true
  ·rw [if_pos c, if_pos (nRun_bare c)]
   exact Nat.le_refl _
  ·rw [if_neg c]
   split <;> omega
 unfold cost
 omega
theorem enc32 : (enc1 32).length = 1 := by decide +kernel
theorem bts_tails_cons (w : List Int) (ws : List (List Int)) : bts (tails (w :: ws)) = 2 + bts w + bts (tails ws) := by
 rw [show tails (w :: ws) = 32 :: 32 :: w ++ tails ws from List.flatMap_cons, bts_append, bts_cons, bts_cons, enc32]
 omega
theorem wd_bts : ∀ (l : List Int), bts (wd (tg mkc l)).1 + bts (tails (wd (tg mkc l)).2) ≤ bts l + l.count 32
 | [] => by decide
 | a :: t => by
  have ih := wd_bts t
  rw [show tg mkc (a :: t) = (a, sp a && bareL mkc t) :: tg mkc t from tgS_cons a t, bts_cons]
  by_cases c : (sp a && bareL mkc t) = true
  ·have ha : a = 32 := sp32 (Bool.and_eq_true .. ▸ c).1
   subst ha
   rw [c, wd_sp, enc32, List.count_cons_self]
   unfold wds
   split
   ·simp only [bts_nil]
    omega
   ·simp only [bts_nil]
    rw [bts_tails_cons]
    omega
  ·rw [Bool.not_eq_true] at c
   rw [c, wd_no, bts_cons]
   have : t.count 32 ≤ (a :: t).count 32 := List.count_le_count_cons
   simp only
   omega
theorem join2_bts (l : List Int) : bts (join2 (wds (tg mkc l))) ≤ bts (wd (tg mkc l)).1 + bts (tails (wd (tg mkc l)).2) := by
 unfold wds
 split
 ·cases e : (wd (tg mkc l)).2 with
  | nil => exact Nat.zero_le _
  | cons w ws =>
   rw [bts_tails_cons, join2, bts_append]
   omega
 ·rw [join2, bts_append]
  exact Nat.le_refl _
theorem vVal_bts (l : List Int) : bts (vVal l) ≤ 2 + cost l := by
 have key : bts (join2 (wds (tg mkc (vFirm l)))) ≤ cost l := by
  have h1 := join2_bts (vFirm l)
  unfold cost flg
  unfold vFirm at h1 ⊢
  by_cases c : bareL mkc l = true
  ·rw [if_pos c] at h1 ⊢
   rw [if_pos c]
   have := wd_bts l
   omega
  ·rw [if_neg c] at h1 ⊢
   rw [if_neg c]
   have h2 := wd_bts l
   have e : tg mkc (32 :: l) = (32, false) :: tg mkc l := by
    rw [show tg mkc (32 :: l) = (32, sp 32 && bareL mkc l) :: tg mkc l from tgS_cons 32 l]
    simp [c]
   rw [e, wd_no, bts_cons, enc32] at h1
   rw [e]
   simp only at h1
   omega
 unfold vVal
 rw [bts_cons, bts_append, enc32, bts_cons, enc32, bts_nil]
 omega
theorem leftS_bts {S : Int → Bool} (l : List Int) : bts (dAll true (leftS (S := S) (mk := mkc) l)) ≤ bts (dAll true l) := by
 induction l with
 | nil => exact Nat.le_refl _
 | cons a t ih =>
  rw [leftS_cons, dAll_cons, bts_append]
  split
  ·omega
  ·rw [dAll_cons, bts_append]
   omega
theorem again_bts (l : List Int) : bts (dAll true (nRun true l)) = bts (dAll true l) := by
 have h1 := ord_back true l
 have h2 : dAll true (dAll false (nRun true l)) = dAll false (nRun true l) := dAll_plain (fun x hx => by
  have hx' := (aOrd_mem (c := dCls) _ x).2 hx
  rw [h1] at hx'
  exact (ord_parts true l x hx').1)
 rw [← dAll_more, h2, ← aOrd_bts dCls (dAll false (nRun true l)), h1, aOrd_bts]
theorem pOut_bts (way : Int) (m : List Int) : bts (pOut way (nRun true m)) ≤ 2 + cost (dAll true m) := by
 have key : ∀ S : Int → Bool, bts (nRun true (leftS (S := S) (mk := mkc) (nRun true m))) ≤ 2 + cost (dAll true m) := fun S => by
  have h1 := nRun_bts1 (leftS (S := S) (mk := mkc) (nRun true m))
  have h2 := leftS_bts (S := S) (nRun true m)
  rw [again_bts] at h2
  unfold cost
  omega
 unfold pOut
 split
 ·exact key _
 split
 ·exact key _
 ·have h1 := vVal_bts (nRun true m)
  have h2 := nRun_cost m
  omega
theorem pVal_form (way : Int) (S : ByteArray) (h : (pVal way S).2 = 0) : ∃ l, (∀ r ∈ l, pt r) ∧ pKnown way = true ∧ ints S = enc l ∧ S.size = bts l ∧ S.size ≤ 1202 ∧ (∀ r ∈ pMid way l, fitK r = true) ∧ (∀ r ∈ pOut way (pMid way l), pt r) ∧ (pVal way S).1 = strOfNums (enc (pOut way (pMid way l))) := by
 unfold pVal at h ⊢
 by_cases hk : pKnown way = true
 ·rw [if_pos hk] at h ⊢
  by_cases hs : S.size > 1202
  ·rw [if_pos hs] at h
   cases h
  ·rw [if_neg hs] at h ⊢
   rcases rdS_form S with ⟨l, g1, g2, g3, g4⟩ | ⟨l, q, g1, g2, g3, g4, g5⟩
   ·rw [g4] at h ⊢
    rw [if_pos rfl] at h ⊢
    unfold pSteps at h ⊢
    by_cases c : (chkV (pMid way l)).2 = 0
    ·simp only [c, if_true] at h ⊢
     by_cases hp : ∀ r ∈ pOut way (pMid way l), pt r
     ·rw [laid_ok hp]
      have hz : S.size = bts l := by
       rw [← ints_length, g2]
       rfl
      exact ⟨l, g1, hk, g2, hz, by omega, fit_of_chkV c, hp, rfl⟩
     ·rw [laid_no hp] at h
      cases h
    ·simp only [if_neg c] at h
     exact absurd h c
   ·rw [g5] at h
    cases h
 ·rw [if_neg hk] at h
  cases h
theorem pOut_fit (way : Int) {m : List Int} (h : ∀ r ∈ m, fitK r = true) : ∀ r ∈ pOut way m, fitK r = true := by
 have f32 : fitK 32 = true := by decide +kernel
 unfold pOut
 split
 ·exact fit_closed (fun r hr => h r (leftS_mem m r hr))
 split
 ·exact fit_closed (fun r hr => h r (leftS_mem m r hr))
 ·intro r hr
  rcases vVal_mem m r hr with rfl | hr
  ·exact f32
  ·exact h r hr
theorem pOut_fix (way : Int) (m : List Int) : nRun true (pOut way (nRun true m)) = pOut way (nRun true m) := by
 unfold pOut
 split
 ·exact nRun_twice true _
 split
 ·exact nRun_twice true _
 ·exact fix_vVal (nRun_twice true m)
theorem laid_size {l : List Int} (h : ∀ r ∈ l, pt r) : (strOfNums (enc l)).size = bts l := by
 rw [← ints_length, ints_laid h]
 rfl
end Go.Proofs.Ytbffakgmlgimeaa.Pure
