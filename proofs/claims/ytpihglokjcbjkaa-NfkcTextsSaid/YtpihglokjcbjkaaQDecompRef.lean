import Derived.Test.YtpihglokjcbjkaaQDecomp
import Derived.Test.YtpihglokjcbjkaaT1
import Derived.Test.YtpihglokjcbjkaaT2
import Derived.Test.YtpihglokjcbjkaaT3
import Derived.Test.YtpihglokjcbjkaaT6
import Derived.Test.YtpihglokjcbjkaaT7
import Derived.Test.YtpihglokjcbjkaaT9
import Derived.Test.YtpihglokjcbjkaaT10
import Derived.Test.YtpihglokjcbjkaaT11
/- The reference's Pair, Single, Loose, One and All are the program's. -/
namespace Go.Proofs.Ytpihglokjcbjkaa.Pure
open Go.RowKit Go.Proofs.Ytpihglokjcbjkaa.P Go.Proofs.YtpihglokjcbjkaaW.PrintWords Go.Proofs.YtpihglokjcbjkaaW.PrintLast
set_option linter.unusedVariables false
set_option linter.unusedSimpArgs false
set_option maxRecDepth 100000
def scanP (x c : Int) : List Int → Option (Int × Int × Bool)
 | y :: m :: t => if y = x then some (c, m, true) else scanP x c t
 | _ => none
def rPairL (x : Int) : List S89 → Int × Int × Bool
 | [] => (0, 0, false)
 | w :: t => match scanP x w.f0 w.f1 with | some v => v | none => rPairL x t
def BASEP : List S89 := (toponymref05_Bases.f).getD []
theorem basep_eq : toponymref05_Bases.f = some BASEP := by
 have : toponymref05_Bases.f.isSome = true := by decide +kernel
 obtain ⟨x, hx⟩ := Option.isSome_iff_exists.1 this
 rw [BASEP, hx]; rfl
theorem rdP_mid (pre : List S89) (a : S89) (suf : List S89) : rd_T89 (pre ++ a :: suf) (pre.length : Int) = a := by
 simp [rd_T89, List.getD_eq_getElem?_getD]
theorem rdP_mid1 (p : List Int) (a r : Int) (s : List Int) : rd (p ++ a :: r :: s) ((p.length : Int) + 1) = r := by
 have := rd_mid (p ++ [a]) r s
 simpa using this
theorem rpair_in (x : Int) (L : List S89) (w : S89) (i : Int) (R : Int × Int × Bool) (h0 : 0 ≤ i) (h1 : i < (L.length : Int)) (hw : rd_T89 L i = w) :
  ∀ (n : Nat) (pre suf : List Int), suf.length ≤ n → w.f1 = pre ++ suf → pre.length + suf.length < 1000 →
   Ev (fun k => match scanP x w.f0 suf with | some v => some v | none => toponymref05_Pair.l0 k x L (wrap64 (i + 1))) R → Ev (fun k => toponymref05_Pair.l1 k x L i (pre.length : Int)) R := by
 intro n
 induction n using Nat.strongRecOn with
 | _ n ih =>
 intro pre suf hn hs hb next
 refine Ev.step (fun k => by simp only [toponymref05_Pair.l1]; rfl) ?_
 refine ev_pos h0 (ev_pos h1 ?_)
 rw [hw, hs, w64 (x := (pre.length : Int) + 1) (by omega) (by omega)]
 match suf, hn, hs, hb, next with
 | [], _, _, _, next =>
  refine ev_neg (by simp <;> omega) ?_
  exact next
 | [y], _, _, _, next =>
  refine ev_neg (by simp <;> omega) ?_
  exact next
 | y :: m :: t, hn, hs, hb, next =>
  simp only [List.length_cons] at hb hn
  refine ev_pos (by simp; omega) (ev_pos (by omega) (ev_pos (by simp; omega) ?_))
  rw [rd_mid]
  refine ev_ite (fun g => ?_) (fun g => ?_)
  ·refine ev_pos (by omega) ?_
   rw [rdP_mid1]
   simp only [scanP, if_pos g] at next
   exact next
  ·have := ih t.length (by omega) (pre ++ [y, m]) t (Nat.le_refl _) (by rw [hs]; simp) (by simp; omega) (by
    simp only [scanP, if_neg g] at next
    exact next)
   rw [w64 (by omega) (by omega)]
   simpa using this
theorem rpair_loop (x : Int) (pre suf : List S89) (hb : pre.length + suf.length < 1000) (ho : suf.all (fun w => decide (w.f1.length < 1000)) = true) :
  Ev (fun k => toponymref05_Pair.l0 k x (pre ++ suf) (pre.length : Int)) (rPairL x suf) := by
 induction suf generalizing pre with
 | nil =>
  refine Ev.step (fun k => by simp only [toponymref05_Pair.l0]; rfl) ?_
  exact ev_neg (by simp) (ev_some rfl)
 | cons w t ih =>
  refine Ev.step (fun k => by simp only [toponymref05_Pair.l0]; rfl) ?_
  simp only [List.length_cons] at hb
  simp only [List.all_cons, Bool.and_eq_true, decide_eq_true_eq] at ho
  refine ev_pos (by simp; omega) ?_
  refine rpair_in x _ w (pre.length : Int) _ (by omega) (by simp; omega) (rdP_mid pre w t) w.f1.length [] w.f1 (Nat.le_refl _) rfl (by simpa using ho.1) ?_
  unfold rPairL
  cases scanP x w.f0 w.f1 with
  | some v => exact ev_some rfl
  | none =>
   have := ih (pre ++ [w]) (by simp; omega) ho.2
   dsimp only
   rw [w64 (by omega) (by omega)]
   simpa using this
def rPair (x : Int) : Int × Int × Bool := rPairL x BASEP
theorem rdpair_ev (x : Int) : Ev (fun k => toponymref05_Pair.f k x) (rPair x) := by
 unfold toponymref05_Pair.f
 refine ev_bind0 basep_eq ?_
 have := rpair_loop x [] BASEP (by decide +kernel) (by decide +kernel)
 unfold rPair
 simpa using this
def evens : List Int → List Int
 | y :: _ :: t => y :: evens t
 | _ => []
theorem scanP_none (x c : Int) : ∀ (n : Nat) (l : List Int), l.length ≤ n → x ∉ evens l → scanP x c l = none := by
 intro n
 induction n with
 | zero => intro l h _; obtain rfl := List.eq_nil_of_length_eq_zero (Nat.le_zero.1 h); rfl
 | succ n ih =>
  intro l h hx
  match l, h, hx with
  | [], _, _ => rfl
  | [_], _, _ => rfl
  | y :: m :: t, h, hx =>
   simp only [evens, List.mem_cons, not_or] at hx
   simp only [List.length_cons] at h
   unfold scanP
   rw [if_neg (fun e => hx.1 e.symm)]
   exact ih t (by omega) hx.2
theorem rPairL_none {x : Int} {l : List S89} (h : ∀ w ∈ l, x ∉ evens w.f1) : rPairL x l = (0, 0, false) := by
 induction l with
 | nil => rfl
 | cons w t ih =>
  unfold rPairL
  rw [scanP_none x w.f0 _ w.f1 (Nat.le_refl _) (h w (by simp))]
  exact ih (fun y hy => h y (by simp [hy]))
theorem evens_in : (BASEP.flatMap (fun w => evens w.f1)).all (fun x => inR dR x) = true := by decide +kernel
theorem rPair_out {r : Int} (h : ¬ inR dR r = true) : rPair r = (0, 0, false) := by
 refine rPairL_none (fun w hw hx => h ?_)
 exact List.all_eq_true.1 evens_in r (List.mem_flatMap.2 ⟨w, hw, hx⟩)
theorem rsing_out {r : Int} (h : ¬ inR dR r = true) (hb : -2147483648 ≤ r ∧ r ≤ 2147483647) : toponymref05_Single.f r = some (0, false) := by
 have o := dR_out h
 unfold toponymref05_Single.f
 rw [w64 (by omega) (by omega)]
 repeat rw [if_neg (by omega)]
theorem rlig_out {r : Int} (h : ¬ inR dR r = true) : toponymref05_ligature.f r = some [] := by
 have o := dR_out h
 unfold toponymref05_ligature.f
 repeat rw [if_neg (by omega)]
theorem rfew_out {r : Int} (h : ¬ inR dR r = true) : toponymref05_few.f r = some [] := by
 have o := dR_out h
 unfold toponymref05_few.f
 rw [rlig_out h]
 repeat rw [if_neg (by omega)]
 rfl
theorem rloose_out {r : Int} (h : ¬ inR dR r = true) (hb : -2147483648 ≤ r ∧ r ≤ 2147483647) : Ev (fun k => toponymref05_Loose.f k r) [] := by
 have o := dR_out h
 have h4 : Ev (fun k => toponymref05_Loose.j4 k r r false) [] := by
  refine Ev.step (fun k => by simp only [toponymref05_Loose.j4]; rfl) ?_
  refine ev_neg (by simp) (ev_ite (fun _ => ev_neg (by omega) ?_) (fun _ => ?_))
  ·exact ev_bind0 (rfew_out h) (Ev.now _)
  ·exact ev_bind0 (rfew_out h) (Ev.now _)
 have h3 : Ev (fun k => toponymref05_Loose.j3 k r r false) [] := by
  refine Ev.step (fun k => by simp only [toponymref05_Loose.j3]; rfl) ?_
  refine ev_neg (by simp) (ev_ite (fun _ => ?_) (fun _ => h4))
  rw [decide_eq_false (by omega : ¬ r ≤ 8571)]; exact h4
 have h2 : Ev (fun k => toponymref05_Loose.j2 k r r false) [] := by
  refine Ev.step (fun k => by simp only [toponymref05_Loose.j2]; rfl) ?_
  refine ev_neg (by simp) (ev_ite (fun _ => ?_) (fun _ => h3))
  rw [decide_eq_false (by omega : ¬ r ≤ 8555)]; exact h3
 have h1 : Ev (fun k => toponymref05_Loose.j1 k r r false) [] := by
  refine Ev.step (fun k => by simp only [toponymref05_Loose.j1]; rfl) ?_
  refine ev_neg (by simp) (ev_ite (fun _ => ?_) (fun _ => h2))
  rw [decide_eq_false (by omega : ¬ r ≤ 8329)]; exact h2
 have h0 : Ev (fun k => toponymref05_Loose.j0 k r r false) [] := by
  refine Ev.step (fun k => by simp only [toponymref05_Loose.j0]; rfl) ?_
  refine ev_neg (by simp) (ev_neg (by omega) (ev_neg (by omega) (ev_ite (fun _ => ?_) (fun _ => h1))))
  rw [decide_eq_false (by omega : ¬ r ≤ 8313)]; exact h1
 have hf : Ev (fun k => toponymref05_Loose.j0 k r r (r == 12288)) [] := by
  rw [show (r == 12288) = false by simp; omega]; exact h0
 unfold toponymref05_Loose.f
 rw [w64 (by omega) (by omega)]
 refine ev_neg (by omega) (ev_ite (fun _ => ev_neg (by omega) (ev_neg (by omega) (ev_neg (by omega) hf))) (fun _ => ev_neg (by omega) (ev_neg (by omega) hf)))
theorem chkR_list : dLIST.all (fun r => decide (decomp_Pair.f 60 r = some (rPair r)) && ((toponymref05_Single.f r).isSome && decide (decomp_Single.f 60 r = toponymref05_Single.f r)) && (decide (((toponymref05_Loose.f 60 r).getD [0, 0, 0, 0, 0]).length < 5) && decide (decomp_Loose.f 60 r = toponymref05_Loose.f 60 r))) = true := by decide +kernel
theorem pair_both (r : Int) : ∃ v, Ev (fun k => decomp_Pair.f k r) v ∧ Ev (fun k => toponymref05_Pair.f k r) v := by
 by_cases d : inR dR r = true
 ·have := List.all_eq_true.1 chkR_list r (mem_dLIST d)
  simp only [Bool.and_eq_true, decide_eq_true_eq] at this
  exact ⟨rPair r, Ev.of (decomp_Pair.mono r) (k := 60) this.1.1, rdpair_ev r⟩
 ·refine ⟨(0, 0, false), pair_out d, ?_⟩
  have := rdpair_ev r
  rw [rPair_out d] at this
  exact this
theorem single_both (r : Int) (hb : -2147483648 ≤ r ∧ r ≤ 2147483647) : ∃ v, Ev (fun k => decomp_Single.f k r) v ∧ toponymref05_Single.f r = some v := by
 by_cases d : inR dR r = true
 ·have := List.all_eq_true.1 chkR_list r (mem_dLIST d)
  simp only [Bool.and_eq_true, decide_eq_true_eq] at this
  obtain ⟨v, hv⟩ := Option.isSome_iff_exists.1 this.1.2.1
  exact ⟨v, Ev.of (decomp_Single.mono r) (k := 60) (this.1.2.2.trans hv), hv⟩
 ·exact ⟨(0, false), single_out d, rsing_out d hb⟩
theorem loose_both (r : Int) (hb : -2147483648 ≤ r ∧ r ≤ 2147483647) : ∃ v, v.length < 5 ∧ Ev (fun k => decomp_Loose.f k r) v ∧ Ev (fun k => toponymref05_Loose.f k r) v := by
 by_cases d : inR dR r = true
 ·have := List.all_eq_true.1 chkR_list r (mem_dLIST d)
  simp only [Bool.and_eq_true, decide_eq_true_eq] at this
  obtain ⟨h1, h2⟩ := this.2
  cases e : toponymref05_Loose.f 60 r with
  | none => rw [e] at h1; simp at h1
  | some v =>
   rw [e] at h1 h2
   exact ⟨v, h1, Ev.of (decomp_Loose.mono r) (k := 60) h2, Ev.of (toponymref05_Loose.mono r) (k := 60) e⟩
 ·exact ⟨[], by simp, loose_out d, rloose_out d hb⟩
def rAllG (f : Int → Option (List Int)) : List Int → List Int → Option (List Int)
 | acc, [] => some acc
 | acc, x :: t => (f x).bind fun u => if acc.length + u.length < 1000 then rAllG f (acc ++ u) t else none
def rOneN : Nat → Int → Bool → Option (List Int)
 | 0, _, _ => none
 | n + 1, r, b => if r < 160 then some [r] else if 44032 ≤ r ∧ r ≤ 55203 then none else
   if (rPair r).2.2 = true then (rOneN n (rPair r).1 b).bind fun u => if u.length < 1000 then some (u ++ [(rPair r).2.1]) else none
   else (toponymref05_Single.f r).bind fun s => if s.2 = true then rOneN n s.1 b else
    (toponymref05_Loose.f 60 r).bind fun L => if b = true then (if (L.length : Int) > 0 then (if L.length < 1000 then rAllG (fun x => rOneN n x b) [] L else none) else some [r]) else some [r]
theorem rallG_ev (b : Bool) (f : Int → Option (List Int)) (hf : ∀ x u, f x = some u → Ev (fun k => toponymref05_One.f k x b) u) (acc pre suf v : List Int) (hb : pre.length + suf.length < 9000) (h : rAllG f acc suf = some v) :
  Ev (fun k => toponymref05_All.l0 k b (pre ++ suf) acc (pre.length : Int)) v := by
 induction suf generalizing pre acc with
 | nil =>
  refine Ev.step (fun k => by simp only [toponymref05_All.l0]; rfl) ?_
  exact ev_neg (by simp) (ev_some (Option.some.inj h))
 | cons a t ih =>
  unfold rAllG at h
  obtain ⟨u, hu, h⟩ := Option.bind_eq_some_iff.1 h
  by_cases c : acc.length + u.length < 1000
  ·rw [if_pos c] at h
   simp only [List.length_cons] at hb
   refine Ev.step (fun k => by simp only [toponymref05_All.l0]; rfl) ?_
   refine ev_pos (mid_lt pre a t) (ev_pos (by omega) ?_)
   rw [rd_mid]
   refine Ev.bind (hf a u hu) (ev_pos (by omega) ?_)
   rw [w64 (by omega) (by omega), mid_snoc pre, ← len_snoc pre a]
   exact ih (acc ++ u) (pre ++ [a]) (by simp; omega) h
  ·rw [if_neg c] at h; cases h
theorem rsyl_is (r : Int) : toponymref04_Syllable.f r = some (decide (44032 ≤ r ∧ r ≤ 55203)) := by
 unfold toponymref04_Syllable.f
 by_cases h : 44032 ≤ r <;> simp [h]
theorem rparts_is {r : Int} (h : 44032 ≤ r ∧ r ≤ 55203) : toponymref04_Apart.f r = some (hParts r) := by
 unfold toponymref04_Apart.f
 rw [rsyl_is r]
 simp only [Option.bind_some]
 rw [if_pos (by simp [h])]
 have e1 : wrap32 (r - 44032) = r - 44032 := w32 (by omega) (by omega)
 simp only [e1, Int.tmod_eq_emod_of_nonneg (show 0 ≤ r - 44032 by omega), Int.tdiv_eq_ediv_of_nonneg (show 0 ≤ r - 44032 by omega)]
 rw [w32 (x := (r - 44032) / 28) (by omega) (by omega), w32 (x := (r - 44032) / 588) (by omega) (by omega),
  Int.tmod_eq_emod_of_nonneg (show 0 ≤ (r - 44032) / 28 by omega), w32 (x := 4352 + _) (by omega) (by omega), w32 (x := 4449 + _) (by omega) (by omega), w32 (x := 4519 + _) (by omega) (by omega)]
 have e2 : (r - 44032) / 588 = (r - 44032) / 28 / 21 := by omega
 unfold hParts
 rw [e2]
 split <;> rfl
theorem roneN_ev (b : Bool) (n : Nat) (r : Int) (v : List Int) (h : rOneN n r b = some v) : Ev (fun k => toponymref05_One.f k r b) v := by
 induction n generalizing r v with
 | zero => cases h
 | succ n ih =>
  unfold rOneN at h
  refine Ev.step (fun k => by simp only [toponymref05_One.f]; rfl) ?_
  by_cases c1 : r < 160
  ·rw [if_pos c1] at h; exact ev_pos c1 (ev_some (Option.some.inj h))
  rw [if_neg c1] at h
  refine ev_neg c1 ?_
  by_cases c2 : 44032 ≤ r ∧ r ≤ 55203
  ·rw [if_pos c2] at h; cases h
  rw [if_neg c2] at h
  refine ev_bind0 (rsyl_is r) (ev_neg (by simpa using c2) ?_)
  refine Ev.bind (rdpair_ev r) ?_
  by_cases c3 : (rPair r).2.2 = true
  ·rw [if_pos c3] at h
   refine ev_pos c3 ?_
   obtain ⟨u, hu, h⟩ := Option.bind_eq_some_iff.1 h
   refine Ev.bind (ih _ _ hu) ?_
   by_cases c4 : u.length < 1000
   ·rw [if_pos c4] at h; exact ev_pos (by omega) (ev_some (Option.some.inj h))
   ·rw [if_neg c4] at h; cases h
  ·rw [if_neg c3] at h
   refine ev_neg c3 ?_
   obtain ⟨s, hs, h⟩ := Option.bind_eq_some_iff.1 h
   refine ev_bind0 hs ?_
   by_cases c5 : s.2 = true
   ·rw [if_pos c5] at h
    exact ev_pos c5 (Ev.bind (ih _ _ h) (Ev.now _))
   rw [if_neg c5] at h
   refine ev_neg c5 ?_
   obtain ⟨L, hL, h⟩ := Option.bind_eq_some_iff.1 h
   refine Ev.bind (Ev.of (toponymref05_Loose.mono r) (k := 60) hL) ?_
   by_cases c6 : b = true
   ·rw [if_pos c6] at h
    refine ev_pos c6 ?_
    by_cases c7 : (L.length : Int) > 0
    ·rw [if_pos c7] at h
     refine ev_pos c7 ?_
     by_cases c8 : L.length < 1000
     ·rw [if_pos c8] at h
      have := rallG_ev b _ (fun x u hx => ih x u hx) [] [] L v (by simp; omega) h
      exact Ev.bind (by simpa using this) (Ev.now _)
     ·rw [if_neg c8] at h; cases h
    ·rw [if_neg c7] at h; exact ev_neg c7 (ev_some (Option.some.inj h))
   ·rw [if_neg c6] at h; exact ev_neg c6 (ev_some (Option.some.inj h))
theorem all_parts {α : Type} (n : Nat) (l : List α) (f : α → Bool) (h1 : (l.take n).all f = true) (h2 : (l.drop n).all f = true) : l.all f = true := by
 rw [← List.take_append_drop n l, List.all_append, h1, h2]; rfl
theorem chkO_low : dLIST.all (fun r => decide (dCls r = 0) && decide (160 ≤ r)) = true := by decide +kernel
theorem chkO_true : dLIST.all (fun r => decide (rOneN 8 r true = some ((decomp_One.f 60 r true).getD []))) = true := all_parts 400 _ _ (by decide +kernel) (by decide +kernel)
theorem chkO_false : dLIST.all (fun r => decide (rOneN 8 r false = some ((decomp_One.f 60 r false).getD []))) = true := all_parts 400 _ _ (by decide +kernel) (by decide +kernel)
theorem rone_ev (r : Int) (b : Bool) (hb : -2147483648 ≤ r ∧ r ≤ 2147483647) : Ev (fun k => toponymref05_One.f k r b) (dOne b r) := by
 unfold dOne
 by_cases c : 44032 ≤ r ∧ r ≤ 55203
 ·rw [if_pos c]
  refine Ev.step (fun k => by simp only [toponymref05_One.f]; rfl) ?_
  refine ev_neg (by omega) (ev_bind0 (rsyl_is r) (ev_pos (by simp [c]) (ev_bind0 (rparts_is c) (Ev.now _))))
 rw [if_neg c]
 by_cases d : inR dR r = true
 ·rw [if_pos d]
  cases b
  ·have := List.all_eq_true.1 chkO_false r (mem_dLIST d)
   exact roneN_ev false 8 r _ (of_decide_eq_true this)
  ·have := List.all_eq_true.1 chkO_true r (mem_dLIST d)
   exact roneN_ev true 8 r _ (of_decide_eq_true this)
 rw [if_neg d]
 refine Ev.step (fun k => by simp only [toponymref05_One.f]; rfl) ?_
 refine ev_ite (fun _ => Ev.now _) (fun _ => ?_)
 refine ev_bind0 (rsyl_is r) (ev_neg (by simpa using c) ?_)
 refine Ev.bind (rdpair_ev r) ?_
 rw [rPair_out d]
 refine ev_neg (by simp) ?_
 refine ev_bind0 (rsing_out d hb) (ev_neg (by simp) ?_)
 refine Ev.bind (rloose_out d hb) ?_
 refine ev_ite (fun _ => ev_neg (by simp) (Ev.now _)) (fun _ => Ev.now _)
theorem dStep_one (b : Bool) (r : Int) : dStep b r = dOne b r := by
 have key : (r < 128 ∨ dCls r > 0) → dOne b r = [r] := by
  intro h
  have c : ¬ (44032 ≤ r ∧ r ≤ 55203) := by
   intro c
   rcases h with h | h
   ·omega
   ·by_cases m : inR cMAR r = true
    ·simp only [inR, cMAR, List.any_cons, List.any_nil, Bool.or_eq_true, Bool.and_eq_true, decide_eq_true_eq, Bool.false_eq_true, or_false] at m
     omega
    ·unfold dCls at h; rw [if_neg m] at h; omega
  have d : ¬ inR dR r = true := by
   intro d
   have := List.all_eq_true.1 chkO_low r (mem_dLIST d)
   simp only [Bool.and_eq_true, decide_eq_true_eq] at this
   rcases h with h | h
   ·have := this.2; omega
   ·have := this.1; omega
  unfold dOne
  rw [if_neg c, if_neg d]
 unfold dStep
 split
 ·rw [key (Or.inl (by assumption))]
 split
 ·rw [key (Or.inr (by assumption))]
 ·rfl
theorem rall_loop (b : Bool) (acc pre suf : List Int) (hw : ∀ x ∈ suf, -2147483648 ≤ x ∧ x ≤ 2147483647) (hb : pre.length + suf.length < 9000000) (ha : acc.length + 4 * suf.length < 35184372088832) :
  Ev (fun k => toponymref05_All.l0 k b (pre ++ suf) acc (pre.length : Int)) (acc ++ dAll b suf) := by
 induction suf generalizing pre acc with
 | nil =>
  refine Ev.step (fun k => by simp only [toponymref05_All.l0]; rfl) ?_
  exact ev_neg (by simp) (ev_some (by simp [dAll]))
 | cons a t ih =>
  refine Ev.step (fun k => by simp only [toponymref05_All.l0]; rfl) ?_
  refine ev_pos (mid_lt pre a t) (ev_pos (by omega) ?_)
  rw [rd_mid]
  simp only [List.length_cons] at hb ha
  have hm := dStep_length b a
  rw [dAll_cons, dStep_one] at *
  refine Ev.bind (rone_ev a b (hw a (by simp))) (ev_pos (by omega) ?_)
  rw [w64 (by omega) (by omega), mid_snoc pre, ← len_snoc pre a]
  refine ev_eq (ih (acc ++ dOne b a) (pre ++ [a]) (fun x hx => hw x (by simp [hx])) (by simp; omega) (by simp; omega)) ?_
  rw [List.append_assoc]
theorem rall_ev (b : Bool) (l : List Int) (hw : ∀ x ∈ l, -2147483648 ≤ x ∧ x ≤ 2147483647) (h : l.length < 1000000) : Ev (fun k => toponymref05_All.f k b l) (dAll b l) := by
 have := rall_loop b [] [] l hw (by simp; omega) (by simp; omega)
 unfold toponymref05_All.f
 simpa using this
end Go.Proofs.Ytpihglokjcbjkaa.Pure
