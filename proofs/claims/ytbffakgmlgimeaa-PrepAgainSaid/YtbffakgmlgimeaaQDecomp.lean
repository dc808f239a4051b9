import Derived.Test.YtbffakgmlgimeaaQClass
import Derived.Test.YtbffakgmlgimeaaQLetters
import Derived.Test.YtbffakgmlgimeaaP6
import Derived.Test.YtbffakgmlgimeaaP7
/- letters.Parts, decomp.Pair, Single, Loose, One, All: what a number is made of. -/
namespace Go.Proofs.Ytbffakgmlgimeaa.Pure
open Go.RowKit Go.Proofs.Ytbffakgmlgimeaa.P Go.Proofs.YtbffakgmlgimeaaW.PrintWords Go.Proofs.YtbffakgmlgimeaaW.PrintLast
set_option linter.unusedVariables false
set_option linter.unusedSimpArgs false
set_option maxRecDepth 100000
def partsL (x : Int) : List S86 → Int × Int
 | [] => (0, 0)
 | w :: t => if findL x (rs w.f1) 0 ≥ 0 then (nthL (rs w.f2) (findL x (rs w.f1) 0), w.f0) else partsL x t
theorem parts_loop (x : Int) (pre suf : List S86) (hb : pre.length + suf.length < 1000) (ho : suf.all (fun w => okAt w.f1 100 0 && okAt w.f2 100 0) = true) :
  Ev (fun k => letters_Parts.l0 k x (pre ++ suf) ((pre ++ suf).length : Int) (pre.length : Int)) (partsL x suf) := by
 induction suf generalizing pre with
 | nil =>
  refine Ev.step (fun k => by simp only [letters_Parts.l0]; rfl) ?_
  exact ev_neg (by simp) (ev_some rfl)
 | cons w t ih =>
  refine Ev.step (fun k => by simp only [letters_Parts.l0]; rfl) ?_
  refine ev_pos (by simp; omega) (ev_pos (by omega) (ev_pos (by simp; omega) ?_))
  simp only [rd62_mid]
  simp only [List.length_cons] at hb
  simp only [List.all_cons, Bool.and_eq_true] at ho
  have hf := find_loop w.f1 x 0 100 0 ho.1.1 (by omega) (by omega)
  refine Ev.bind (show Ev (fun k => letters_find.f k w.f1 x) (findL x (rs w.f1) 0) from hf) ?_
  unfold partsL
  have hl := runesAt_length w.f1 100 0
  have hx := findL_le x (rs w.f1) 0 (by omega)
  refine ev_ite (fun h => ?_) (fun h => ?_)
  ·rw [if_pos h]
   have hn := nth_loop w.f2 (findL x (rs w.f1) 0) 100 0 ho.1.2 (by omega) (by unfold rs at hx ⊢; omega) (by omega)
   exact Ev.bind (show Ev (fun k => letters_nth.f k w.f2 (findL x (rs w.f1) 0)) (nthL (rs w.f2) (findL x (rs w.f1) 0)) from hn) (Ev.now _)
  ·rw [if_neg h]
   have := ih (pre ++ [w]) (by simp; omega) ho.2
   rw [w64 (by omega) (by omega)]
   simpa using this
def dParts (x : Int) : Int × Int := partsL x LROWS
theorem parts_ev (x : Int) : Ev (fun k => letters_Parts.f k x) (dParts x) := by
 unfold letters_Parts.f
 refine ev_bind0 lrows_eq ?_
 have := parts_loop x [] LROWS (by decide +kernel) (by decide +kernel)
 unfold dParts
 simpa using this
def WHOLES : List Int := LROWS.flatMap (fun w => rs w.f1)
theorem partsL_none {x : Int} {l : List S86} (h : ∀ w ∈ l, x ∉ rs w.f1) : partsL x l = (0, 0) := by
 induction l with
 | nil => rfl
 | cons w t ih =>
  unfold partsL
  rcases findL_le x (rs w.f1) 0 (by omega) with e | ⟨_, _, e⟩
  ·rw [e, if_neg (by omega), ih (fun y hy => h y (by simp [hy]))]
  ·exact absurd e (h w (by simp))
theorem dParts_none {x : Int} (h : x ∉ WHOLES) : dParts x = (0, 0) := partsL_none (fun w hw hx => h (List.mem_flatMap.2 ⟨w, hw, hx⟩))
def dR : List (Int × Int) := [(160, 383), (902, 1111), (8192, 8202), (8209, 8209), (8239, 8239), (8287, 8287), (8304, 8329), (8486, 8491), (8544, 8571), (12288, 12288), (12353, 12436), (64256, 64261), (65281, 65374)]
def dLIST : List Int := dR.flatMap (fun p => (List.range (p.2 - p.1 + 1).toNat).map (fun (n : Nat) => p.1 + (n : Int)))
theorem mem_dLIST {r : Int} (h : inR dR r = true) : r ∈ dLIST := by
 unfold inR at h
 obtain ⟨p, hp, h⟩ := List.any_eq_true.1 h
 simp only [Bool.and_eq_true, decide_eq_true_eq] at h
 refine List.mem_flatMap.2 ⟨p, hp, List.mem_map.2 ⟨(r - p.1).toNat, List.mem_range.2 (by omega), by omega⟩⟩
theorem dR_out {r : Int} (h : ¬ inR dR r = true) : r < 160 ∨ (383 < r ∧ r < 902) ∨ (1111 < r ∧ r < 8192) ∨ (8202 < r ∧ r < 8209) ∨ (8209 < r ∧ r < 8239) ∨ (8239 < r ∧ r < 8287) ∨ (8287 < r ∧ r < 8304) ∨ (8329 < r ∧ r < 8486) ∨ (8491 < r ∧ r < 8544) ∨ (8571 < r ∧ r < 12288) ∨ (12288 < r ∧ r < 12353) ∨ (12436 < r ∧ r < 64256) ∨ (64261 < r ∧ r < 65281) ∨ 65374 < r := by
 simp only [inR, dR, List.any_cons, List.any_nil, Bool.or_eq_true, Bool.and_eq_true, decide_eq_true_eq, Bool.false_eq_true, or_false] at h
 omega
theorem wholes_in {r : Int} (h : ¬ inR dR r = true) : r ∉ WHOLES := by
 intro hr
 have : WHOLES.all (fun x => inR dR x) = true := by decide +kernel
 exact h (List.all_eq_true.1 this r hr)
theorem dwithin_eq (r a b : Int) : decomp_within.f r a b = some (decide (a ≤ r ∧ r ≤ b)) := by
 unfold decomp_within.f
 by_cases h : a ≤ r <;> simp [h]
theorem syl_eq (r : Int) : hangul_Syllable.f r = some (decide (44032 ≤ r ∧ r ≤ 55203)) := by
 unfold hangul_Syllable.f
 by_cases h : 44032 ≤ r <;> simp [h]
theorem pair_out {r : Int} (h : ¬ inR dR r = true) : Ev (fun k => decomp_Pair.f k r) (0, 0, false) := by
 unfold decomp_Pair.f
 refine ev_ite (fun _ => Ev.now _) (fun _ => ?_)
 refine Ev.bind (parts_ev r) ?_
 rw [dParts_none (wholes_in h)]
 exact Ev.now _
theorem single_out {r : Int} (h : ¬ inR dR r = true) : Ev (fun k => decomp_Single.f k r) (0, false) := by
 have := dR_out h
 unfold decomp_Single.f
 refine ev_neg (by omega) ?_
 refine Ev.step (fun k => by simp only [decomp_Single.j0]; rfl) ?_
 exact ev_neg (by simp; omega) (ev_neg (by omega) (ev_neg (by omega) (ev_neg (by omega) (Ev.now _))))
theorem latin_out {r : Int} (h : ¬ inR dR r = true) : Ev (fun k => decomp_latin.f k r) ⟨#[]⟩ := by
 have := dR_out h
 unfold decomp_latin.f
 repeat refine ev_neg (by omega) ?_
 refine Ev.step (fun k => by simp only [decomp_latin.j0]; rfl) ?_
 refine ev_neg (by simp; omega) ?_
 repeat refine ev_neg (by omega) ?_
 exact Ev.now _
theorem loose_out {r : Int} (h : ¬ inR dR r = true) : Ev (fun k => decomp_Loose.f k r) [] := by
 have o := dR_out h
 have hi : Ev (fun k => decomp_Loose.j0 k r false) [] := by
  refine Ev.step (fun k => by simp only [decomp_Loose.j0]; rfl) ?_
  refine ev_neg (by simp) (ev_neg (by omega) ?_)
  refine ev_bind0 (dwithin_eq _ _ _) (ev_neg (by simp; omega) (ev_neg (by omega) (ev_neg (by omega) ?_)))
  refine Ev.step (fun k => by simp only [decomp_Loose.j1]; rfl) ?_
  refine ev_neg (by simp; omega) (ev_neg (by omega) (ev_neg (by omega) ?_))
  refine ev_bind0 (dwithin_eq _ _ _) ?_
  refine Ev.step (fun k => by simp only [decomp_Loose.j2]; rfl) ?_
  refine ev_neg (by simp; omega) ?_
  refine ev_bind0 (dwithin_eq _ _ _) (ev_neg (by simp; omega) ?_)
  refine ev_bind0 (dwithin_eq _ _ _) (ev_neg (by simp; omega) ?_)
  refine ev_bind0 (dwithin_eq _ _ _) (ev_neg (by simp; omega) ?_)
  refine ev_bind0 (dwithin_eq _ _ _) (ev_neg (by simp; omega) ?_)
  refine ev_bind0 (dwithin_eq _ _ _) (ev_neg (by simp; omega) ?_)
  exact Ev.now _
 unfold decomp_Loose.f
 refine ev_ite (fun _ => ?_) (fun _ => hi)
 refine Ev.bind (latin_out h) ?_
 rw [show (({ data := #[] } : ByteArray).toList != []) = false from by decide +kernel]
 exact hi
def hParts (r : Int) : List Int := if (r - 44032) % 28 = 0 then [4352 + (r - 44032) / 28 / 21, 4449 + (r - 44032) / 28 % 21] else [4352 + (r - 44032) / 28 / 21, 4449 + (r - 44032) / 28 % 21, 4519 + (r - 44032) % 28]
def dOne (b : Bool) (r : Int) : List Int := if 44032 ≤ r ∧ r ≤ 55203 then hParts r else if inR dR r = true then (decomp_One.f 60 r b).getD [] else [r]
theorem dOne_some : dLIST.all (fun r => (decomp_One.f 60 r true).isSome && (decomp_One.f 60 r false).isSome) = true := by decide +kernel
theorem dec_one_ev (r : Int) (b : Bool) : Ev (fun k => decomp_One.f k r b) (dOne b r) := by
 unfold dOne
 by_cases c : 44032 ≤ r ∧ r ≤ 55203
 ·rw [if_pos c]
  refine Ev.step (fun k => by simp only [decomp_One.f]; rfl) ?_
  refine ev_bind0 (syl_eq r) (ev_pos (by simp [c]) ?_)
  refine ev_eq (Ev.of (fun k => LeO.refl _) (k := 0) (r := hParts r) ?_) rfl
  unfold hangul_Apart.f hParts
  rw [if_pos c]
  split <;> rfl
 rw [if_neg c]
 by_cases d : inR dR r = true
 ·rw [if_pos d]
  have := List.all_eq_true.1 dOne_some r (mem_dLIST d)
  simp only [Bool.and_eq_true] at this
  refine Ev.of (fun k => (decomp_One.mono_l k).1 r b) (k := 60) ?_
  cases b
  ·obtain ⟨x, hx⟩ := Option.isSome_iff_exists.1 this.2
   rw [hx]; rfl
  ·obtain ⟨x, hx⟩ := Option.isSome_iff_exists.1 this.1
   rw [hx]; rfl
 rw [if_neg d]
 refine Ev.step (fun k => by simp only [decomp_One.f]; rfl) ?_
 refine ev_bind0 (syl_eq r) (ev_neg (by simpa using c) ?_)
 refine Ev.bind (pair_out d) (ev_neg (by simp) ?_)
 refine Ev.bind (single_out d) (ev_neg (by simp) ?_)
 refine Ev.bind (loose_out d) ?_
 refine ev_ite (fun _ => ev_neg (by simp) (Ev.now _)) (fun _ => Ev.now _)
def dStep (b : Bool) (r : Int) : List Int := if r < 128 then [r] else if dCls r > 0 then [r] else dOne b r
def dAll (b : Bool) (l : List Int) : List Int := l.flatMap (dStep b)
theorem dAll_cons (b : Bool) (a : Int) (t : List Int) : dAll b (a :: t) = dStep b a ++ dAll b t := by simp [dAll]
theorem dOne_len_chk : dLIST.all (fun r => decide (((decomp_One.f 60 r true).getD []).length ≤ 4) && decide (((decomp_One.f 60 r false).getD []).length ≤ 4)) = true := by decide +kernel
theorem dOne_length (b : Bool) (r : Int) : (dOne b r).length ≤ 4 := by
 unfold dOne
 by_cases c : 44032 ≤ r ∧ r ≤ 55203
 ·rw [if_pos c]
  unfold hParts
  split <;> simp
 rw [if_neg c]
 by_cases d : inR dR r = true
 ·rw [if_pos d]
  have := List.all_eq_true.1 dOne_len_chk r (mem_dLIST d)
  simp only [Bool.and_eq_true, decide_eq_true_eq] at this
  cases b
  ·exact this.2
  ·exact this.1
 ·rw [if_neg d]; simp
theorem dStep_length (b : Bool) (r : Int) : (dStep b r).length ≤ 4 := by
 have := dOne_length b r
 unfold dStep
 split
 ·simp
 split
 ·simp
 ·exact this
theorem dec_all_loop (b : Bool) (acc pre suf : List Int) (hb : pre.length + suf.length < 9000000000000000000) (ha : acc.length + 4 * suf.length < 35184372088832) :
  Ev (fun k => decomp_All.l0 k b acc (pre ++ suf) ((pre ++ suf).length : Int) (pre.length : Int)) (acc ++ dAll b suf) := by
 induction suf generalizing pre acc with
 | nil =>
  refine Ev.step (fun k => by simp only [decomp_All.l0]; rfl) ?_
  exact ev_neg (by simp) (ev_some (by simp [dAll]))
 | cons a t ih =>
  refine Ev.step (fun k => by simp only [decomp_All.l0]; rfl) ?_
  refine ev_pos (mid_lt pre a t) (ev_pos (by omega) (ev_pos (mid_lt pre a t) ?_))
  rw [rd_mid]
  simp only [List.length_cons] at hb ha
  have hm := dStep_length b a
  rw [dAll_cons]
  have next : ∀ x : List Int, x = dStep b a → Ev (fun k => decomp_All.l0 k b (acc ++ x) (pre ++ a :: t) ((pre ++ a :: t).length : Int) (wrap64 ((pre.length : Int) + 1))) (acc ++ (dStep b a ++ dAll b t)) := by
   intro x hx
   rw [w64 (by omega) (by omega), mid_snoc pre, ← len_snoc pre a]
   refine ev_eq (ih (acc ++ x) (pre ++ [a]) (by simp; omega) (by rw [hx]; simp; omega)) ?_
   rw [hx, List.append_assoc]
  refine ev_ite (fun h => ?_) (fun h => ?_)
  ·exact ev_pos (by omega) (next _ (by unfold dStep; rw [if_pos h]))
  refine Ev.bind (class_ev a) ?_
  refine ev_ite (fun g => ?_) (fun g => ?_)
  ·exact ev_pos (by omega) (next _ (by unfold dStep; rw [if_neg h, if_pos g]))
  ·refine Ev.bind (dec_one_ev a b) ?_
   have e : dStep b a = dOne b a := by unfold dStep; rw [if_neg h, if_neg g]
   rw [← e]
   exact ev_pos (by omega) (next _ rfl)
theorem dec_all_ev (b : Bool) (l : List Int) (h : l.length < 8000000000000) : Ev (fun k => decomp_All.f k b l) (dAll b l) := by
 have := dec_all_loop b [] [] l (by simp; omega) (by simp; omega)
 unfold decomp_All.f
 simpa using this
end Go.Proofs.Ytbffakgmlgimeaa.Pure
