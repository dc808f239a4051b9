import Derived.Test.YtbffakgmlgimeaaQNeut
import Derived.Test.YtbffakgmlgimeaaQPrepMem

/- What prep tells is in the loose normal form. -/
namespace Go.Proofs.Ytbffakgmlgimeaa.P
end Go.Proofs.Ytbffakgmlgimeaa.P
namespace Go.Proofs.Ytbffakgmlgimeaa.Pure
open Go.RowKit Go.Proofs.Ytbffakgmlgimeaa.P Go.Proofs.YtbffakgmlgimeaaW.PrintWords Go.Proofs.YtbffakgmlgimeaaW.PrintLast
open Hangul Utf
set_option linter.unusedVariables false
set_option linter.unusedSimpArgs false
set_option maxRecDepth 100000
theorem sp32 {a : Int} (h : sp a = true) : a = 32 := by simpa [sp] using h
theorem fix_wd : ∀ (l pre : List Int), Fix (pre ++ l) → Fix (pre ++ (wd (tg mkc l)).1) ∧ ∀ w ∈ (wd (tg mkc l)).2, Fix w
 | [], pre, h => ⟨h, fun w hw => by simp [tgS, wd] at hw⟩
 | a :: t, pre, h => by
  have e : tg mkc (a :: t) = (a, sp a && bareL mkc t) :: tg mkc t := tgS_cons a t
  rw [e]
  by_cases c : (sp a && bareL mkc t) = true
  ·rw [c, wd_sp]
   have ha := sp32 (Bool.and_eq_true .. ▸ c).1
   subst ha
   have h2 := (fix_mid neu_four.1).1 h
   have ih := fix_wd t [] h2.2
   refine ⟨by rw [List.append_nil]; exact h2.1, fun w hw => ?_⟩
   unfold wds at hw
   split at hw
   ·exact ih.2 w hw
   ·rcases List.mem_cons.1 hw with rfl | hw
    ·exact ih.1
    ·exact ih.2 w hw
  ·rw [Bool.not_eq_true] at c
   rw [c, wd_no]
   have ih := fix_wd t (pre ++ [a]) (by simpa using h)
   exact ⟨by simpa using ih.1, ih.2⟩
theorem fix_wds {l : List Int} (h : Fix l) : ∀ w ∈ wds (tg mkc l), Fix w := by
 have ih := fix_wd l [] h
 intro w hw
 unfold wds at hw
 split at hw
 ·exact ih.2 w hw
 ·rcases List.mem_cons.1 hw with rfl | hw
  ·exact ih.1
  ·exact ih.2 w hw
theorem fix_tails : ∀ (ws : List (List Int)) (pre post : List Int), (∀ w ∈ ws, Fix w) → Fix pre → Fix (32 :: post) → Fix (pre ++ tails ws ++ 32 :: post)
 | [], pre, post, _, hp, hq => by
  rw [show tails [] = [] from rfl, List.append_nil]
  exact (fix_mid neu_four.1).2 ⟨hp, (fix_front neu_four.1).1 hq⟩
 | w :: ws, pre, post, h, hp, hq => by
  have e : tails (w :: ws) = 32 :: 32 :: w ++ tails ws := List.flatMap_cons
  have ih := fix_tails ws w post (fun x hx => h x (List.mem_cons_of_mem _ hx)) (h w List.mem_cons_self) hq
  rw [e, show pre ++ (32 :: 32 :: w ++ tails ws) ++ 32 :: post = pre ++ 32 :: (32 :: (w ++ tails ws ++ 32 :: post)) by simp]
  exact (fix_mid neu_four.1).2 ⟨hp, (fix_front neu_four.1).2 ih⟩
theorem fix_firm {l : List Int} (h : Fix l) : Fix (vFirm l) := by
 unfold vFirm
 split
 ·exact h
 ·exact (fix_front neu_four.1).2 h
theorem fix_vVal {l : List Int} (h : Fix l) : Fix (vVal l) := by
 unfold vVal
 refine (fix_front neu_four.1).2 ?_
 have hw := fix_wds (fix_firm h)
 have h32 : Fix [32] := (fix_front neu_four.1).2 fix_nil
 cases e : wds (tg mkc (vFirm l)) with
 | nil => exact h32
 | cons w ws =>
  rw [e] at hw
  exact fix_tails ws w [] (fun x hx => hw x (List.mem_cons_of_mem _ hx)) (hw w List.mem_cons_self) h32
def MARKS : List Int := [768, 769, 770, 771, 772, 774, 775, 776, 778, 779, 780, 803, 807, 808, 12441, 12442]
theorem mar_mem {r : Int} (h : inR cMAR r = true) : r ∈ MARKS := by
 simp only [inR, cMAR, List.any_cons, List.any_nil, Bool.or_eq_true, Bool.and_eq_true, decide_eq_true_eq, Bool.or_false] at h
 simp only [MARKS, List.mem_cons, List.not_mem_nil, or_false]
 omega
theorem marks_all : MARKS.all (fun r => mkc r && decide (0 < dCls r)) = true := by decide +kernel
theorem mkc_cls (r : Int) : mkc r = decide (0 < dCls r) := by
 by_cases h : inR cMAR r = true
 ·have := List.all_eq_true.1 marks_all r (mar_mem h)
  simp only [Bool.and_eq_true] at this
  rw [this.1, this.2]
 ·rw [dCls_out h]
  have e : cKind r ≠ 3 := by
   unfold cKind
   repeat' split
   all_goals first | omega | contradiction
  simp [mkc, e]
theorem mkc_true {r : Int} : mkc r = true ↔ 0 < dCls r := by rw [mkc_cls, decide_eq_true_eq]
theorem mkc_false {r : Int} : mkc r = false ↔ dCls r = 0 := by
 have := dCls_pos r
 rw [mkc_cls, decide_eq_false_iff_not]
 omega
theorem bare_cons {a : Int} {t : List Int} : bareL mkc (a :: t) = !mkc a := rfl
theorem insR_last {r : Int} : ∀ (l : List Int) (z : Int), 0 < dCls z → ∃ y q, insR dCls r (l ++ [z]) = q ++ [y] ∧ 0 < dCls y
 | [], z, hz => by
  rw [List.nil_append, insR_cons]
  split
  ·rename_i h
   simp only [wrg, Bool.and_eq_true, decide_eq_true_eq] at h
   exact ⟨r, [z], rfl, h.1⟩
  ·exact ⟨z, [r], rfl, hz⟩
 | a :: t, z, hz => by
  rw [List.cons_append, insR_cons]
  obtain ⟨y, q, e, hy⟩ := insR_last t z hz
  split
  ·exact ⟨y, a :: q, by rw [e]; rfl, hy⟩
  ·exact ⟨z, r :: a :: t, by simp, hz⟩
theorem ordR_last : ∀ (l acc : List Int) (z : Int), 0 < dCls z → ∃ y q, ordR dCls l (acc ++ [z]) = q ++ [y] ∧ 0 < dCls y
 | [], acc, z, hz => ⟨z, acc, rfl, hz⟩
 | a :: t, acc, z, hz => by
  obtain ⟨y, q, e, hy⟩ := insR_last (r := a) acc z hz
  rw [ordR_cons, e]
  exact ordR_last t q y hy
theorem aOrd_head {a : Int} (t : List Int) (h : 0 < dCls a) : ∃ y q, aOrd dCls (a :: t) = y :: q ∧ 0 < dCls y := by
 obtain ⟨y, q, e, hy⟩ := ordR_last t [] a h
 unfold aOrd
 rw [ordR_cons]
 have e' : ordR dCls t (insR dCls a []) = q ++ [y] := e
 rw [e']
 exact ⟨y, q.reverse, by simp, hy⟩
theorem cRun_pre {P : List Int} : ∀ (l : List Int) (p : List Int) (o : Option (Int × List Int)), ∃ q, cFlat (cRun dCls cPair l (P ++ p, o)) = P ++ q
 | [], p, none => ⟨p, rfl⟩
 | [], p, some (h, U) => ⟨p ++ h :: U, by simp [cRun, cFlat]⟩
 | a :: t, p, none => by
  rw [cRun_cons, cStep_none]
  split
  ·exact cRun_pre t p _
  ·rw [List.append_assoc]
   exact cRun_pre t _ _
 | a :: t, p, some (h, U) => by
  rw [cRun_cons]
  cases e : cTry dCls cPair h U a with
  | some x => rw [cStep_yes e]; exact cRun_pre t p _
  | none =>
   rw [cStep_no e]
   split
   ·rw [List.append_assoc]
    exact cRun_pre t _ _
   ·exact cRun_pre t p _
theorem nRun_mark {l : List Int} (h : bareL mkc l = false) : bareL mkc (nRun true l) = false := by
 cases l with
 | nil => cases h
 | cons a t =>
  rw [bare_cons, Bool.not_eq_false'] at h
  have ha := mkc_true.1 h
  unfold nRun
  rw [dAll_cons, mark_step true ha, List.singleton_append]
  obtain ⟨y, q, e, hy⟩ := aOrd_head (dAll true t) ha
  rw [e]
  show bareL mkc (cFlat (cRun dCls cPair (y :: q) ([], none))) = false
  rw [cRun_cons, cStep_none, if_neg (by omega)]
  obtain ⟨q2, e2⟩ := cRun_pre (P := [y]) q [] none
  have e3 : cFlat (cRun dCls cPair q ([] ++ [y], none)) = [y] ++ q2 := e2
  rw [e3]
  show (!mkc y) = false
  rw [mkc_true.2 hy]
  rfl
theorem cRun_zero : ∀ (l : List Int) (h : Int) (U : List Int), dCls h = 0 → ∃ y q, cFlat (cRun dCls cPair l ([], some (h, U))) = y :: q ∧ dCls y = 0
 | [], h, U, hh => ⟨h, U, rfl, hh⟩
 | a :: t, h, U, hh => by
  rw [cRun_cons]
  cases e : cTry dCls cPair h U a with
  | some x =>
   rw [cStep_yes e]
   have ex : cPair h a = some x := by
    unfold cTry at e
    split at e
    ·exact e
    ·cases e
   exact cRun_zero t x U (cPair_new ex 0).1
  | none =>
   rw [cStep_no e]
   split
   ·obtain ⟨q, e2⟩ := cRun_pre (P := h :: U) t [] (some (a, []))
    rw [List.append_nil] at e2
    exact ⟨h, U ++ q, by rw [List.nil_append, e2]; rfl, hh⟩
   ·exact cRun_zero t h _ hh
theorem nRun_bare {l : List Int} (h : bareL mkc (dAll true l) = true) : bareL mkc (nRun true l) = true := by
 unfold nRun
 cases e : dAll true l with
 | nil => rfl
 | cons a t =>
  rw [e, bare_cons, Bool.not_eq_true'] at h
  have ha := mkc_false.1 h
  rw [show a :: t = [] ++ a :: t from rfl, aOrd_mid ha]
  show bareL mkc (cFlat (cRun dCls cPair (aOrd dCls [] ++ a :: aOrd dCls t) ([], none))) = true
  rw [show aOrd dCls [] = [] from rfl, List.nil_append, cRun_cons, cStep_none, if_pos ha]
  obtain ⟨y, q, e2, hy⟩ := cRun_zero (aOrd dCls t) a [] ha
  rw [e2, bare_cons, mkc_false.2 hy]
  rfl
end Go.Proofs.Ytbffakgmlgimeaa.Pure
