import Derived.Test.YtbffakgmlgimeaaQClass
import Derived.Test.YtbffakgmlgimeaaQLetters
import Derived.Test.YtbffakgmlgimeaaQJoin
import Derived.Test.YtbffakgmlgimeaaQCmp
import Derived.Test.YtbffakgmlgimeaaP6
import Derived.Test.YtbffakgmlgimeaaP8
/- letters.Made, compose.Pair: what two make. -/
namespace Go.Proofs.Ytbffakgmlgimeaa.Pure
open Go.RowKit Go.Proofs.Ytbffakgmlgimeaa.P Go.Proofs.YtbffakgmlgimeaaW.PrintWords Go.Proofs.YtbffakgmlgimeaaW.PrintLast
open Hangul
set_option linter.unusedVariables false
set_option linter.unusedSimpArgs false
set_option maxRecDepth 100000
def madeL (a b : Int) : List S86 → Int
 | [] => 0
 | w :: t => if w.f0 = b ∧ findL a (rs w.f2) 0 ≥ 0 then nthL (rs w.f1) (findL a (rs w.f2) 0) else madeL a b t
theorem made_loop (a b : Int) (pre suf : List S86) (hb : pre.length + suf.length < 1000) (ho : suf.all (fun w => okAt w.f1 100 0 && okAt w.f2 100 0) = true) (n : Int) (hn : n = ((pre ++ suf).length : Int)) :
  Ev (fun k => letters_Made.l0 k a b (pre ++ suf) n (pre.length : Int)) (madeL a b suf) := by
 induction suf generalizing pre with
 | nil =>
  refine Ev.step (fun k => by simp only [letters_Made.l0]; rfl) ?_
  exact ev_neg (by subst hn; simp) (ev_some rfl)
 | cons w t ih =>
  refine Ev.step (fun k => by simp only [letters_Made.l0]; rfl) ?_
  refine ev_pos (by subst hn; simp; omega) (ev_pos (by omega) (ev_pos (by simp; omega) ?_))
  simp only [rd62_mid]
  simp only [List.length_cons] at hb
  simp only [List.all_cons, Bool.and_eq_true] at ho
  have hf := find_loop w.f2 a 0 100 0 ho.1.2 (by omega) (by omega)
  refine Ev.bind (show Ev (fun k => letters_find.f k w.f2 a) (findL a (rs w.f2) 0) from hf) ?_
  have next : Ev (fun k => letters_Made.l0 k a b (pre ++ w :: t) n (wrap64 ((pre.length : Int) + 1))) (madeL a b t) := by
   have := ih (pre ++ [w]) (by simp; omega) ho.2 (by rw [hn]; simp)
   rw [w64 (by omega) (by omega)]
   simpa using this
  have hl := runesAt_length w.f2 100 0
  have hx := findL_le a (rs w.f2) 0 (by omega)
  unfold madeL
  refine ev_ite (fun h => ?_) (fun h => ?_)
  ·refine ev_ite (fun g => ?_) (fun g => ?_)
   ·rw [if_pos ⟨h, g⟩]
    have hn := nth_loop w.f1 (findL a (rs w.f2) 0) 100 0 ho.1.1 (by omega) (by unfold rs at hx ⊢; omega) (by omega)
    exact Ev.bind (show Ev (fun k => letters_nth.f k w.f1 (findL a (rs w.f2) 0)) (nthL (rs w.f1) (findL a (rs w.f2) 0)) from hn) (Ev.now _)
   ·rw [if_neg (fun e => g e.2)]
    exact next
  ·rw [if_neg (fun e => h e.1)]
   exact next
def dMade (a b : Int) : Int := madeL a b LROWS
theorem made_ev (a b : Int) : Ev (fun k => letters_Made.f k a b) (dMade a b) := by
 unfold letters_Made.f
 refine ev_bind0 lrows_eq ?_
 have := made_loop a b [] LROWS (by decide +kernel) (by decide +kernel) _ rfl
 unfold dMade
 simpa using this
def TRIPLES : List (Int × Int × Int) := LROWS.flatMap (fun w => (List.zip (rs w.f2) (rs w.f1)).map (fun p => (p.1, w.f0, p.2)))
theorem find_zip (x : Int) (l m : List Int) (n : Int) (h0 : 0 ≤ n) (h1 : findL x l n ≥ 0) (h2 : nthL m (findL x l n - n) ≠ 0) : (x, nthL m (findL x l n - n)) ∈ List.zip l m := by
 induction l generalizing m n with
 | nil => simp [findL] at h1
 | cons a t ih =>
  unfold findL at h1 h2 ⊢
  by_cases c : a = x
  ·rw [if_pos c] at h1 h2 ⊢
   rw [Int.sub_self] at h2 ⊢
   cases m with
   | nil => simp [nthL] at h2
   | cons b m => simp [nthL, c]
  ·rw [if_neg c] at h1 h2 ⊢
   have hle : n + 1 ≤ findL x t (n + 1) := by
    rcases findL_le x t (n + 1) (by omega) with h | h
    ·omega
    ·exact h.1
   cases m with
   | nil => simp [nthL] at h2
   | cons b m =>
    have e : nthL (b :: m) (findL x t (n + 1) - n) = nthL m (findL x t (n + 1) - (n + 1)) := by
     conv => lhs; unfold nthL
     rw [if_neg (by omega)]
     congr 1
     omega
    rw [e] at h2 ⊢
    simp [ih m (n + 1) (by omega) h1 h2]
theorem madeL_mem {a b : Int} {l : List S86} (h : madeL a b l ≠ 0) : (a, b, madeL a b l) ∈ l.flatMap (fun w => (List.zip (rs w.f2) (rs w.f1)).map (fun p => (p.1, w.f0, p.2))) := by
 induction l with
 | nil => exact absurd rfl h
 | cons w t ih =>
  unfold madeL at h ⊢
  rw [List.flatMap_cons]
  by_cases c : w.f0 = b ∧ findL a (rs w.f2) 0 ≥ 0
  ·rw [if_pos c] at h ⊢
   refine List.mem_append.2 (.inl (List.mem_map.2 ⟨(a, nthL (rs w.f1) (findL a (rs w.f2) 0)), ?_, by rw [c.1]⟩))
   have := find_zip a (rs w.f2) (rs w.f1) 0 (by omega) c.2 (by simpa using h)
   simpa using this
  ·rw [if_neg c] at h ⊢
   exact List.mem_append.2 (.inr (ih h))
theorem dMade_mem {a b : Int} (h : dMade a b ≠ 0) : (a, b, dMade a b) ∈ TRIPLES := madeL_mem h
def cPairP (a b : Int) : Int × Bool := if (hJoin a b).2 = true then ((hJoin a b).1, true) else if dCls b > 0 then (dMade a b, dMade a b != 0) else (0, false)
def cPair (a b : Int) : Option Int := if (cPairP a b).2 = true then some (cPairP a b).1 else none
theorem pair_ev (a b : Int) : Ev (fun k => compose_Pair.f k a b) (cPairP a b) := by
 unfold compose_Pair.f cPairP
 refine Ev.bind (join_ev a b) ?_
 refine ev_ite (fun h => by rw [if_pos h]; exact Ev.now _) (fun h => ?_)
 rw [if_neg h]
 refine Ev.bind (class_ev b) ?_
 refine ev_ite (fun g => ?_) (fun g => by rw [if_neg g]; exact Ev.now _)
 rw [if_pos g]
 exact Ev.bind (made_ev a b) (Ev.now _)
theorem cPair_join {a b x : Int} (h : cPair a b = some x) : (hJoin a b = (x, true)) ∨ ((hJoin a b).2 = false ∧ dCls b > 0 ∧ dMade a b = x ∧ x ≠ 0) := by
 unfold cPair cPairP at h
 by_cases c : (hJoin a b).2 = true
 ·rw [if_pos c] at h
  simp only [if_true, Option.some.injEq] at h
  exact .inl (by rw [← h, ← c])
 ·rw [if_neg c] at h
  by_cases d : dCls b > 0
  ·rw [if_pos d] at h
   by_cases e : dMade a b = 0
   ·simp [e] at h
   ·simp only [bne_iff_ne, ne_eq, e, not_false_eq_true, if_true, Option.some.injEq] at h
    exact .inr ⟨by simpa using c, d, h, by rw [← h]; exact e⟩
  ·rw [if_neg d] at h
   simp at h
theorem dCls_pos (r : Int) : 0 ≤ dCls r := by
 unfold dCls
 repeat' split
 all_goals omega
theorem dCls_top (r : Int) : dCls r ≤ 230 := by
 unfold dCls
 repeat' split
 all_goals omega
theorem dCls_out {r : Int} (h : ¬ inR cMAR r = true) : dCls r = 0 := by unfold dCls; rw [if_neg h]
theorem syl_cls {r : Int} (h : 4352 ≤ r ∧ r ≤ 4546 ∨ 44032 ≤ r ∧ r ≤ 55203) : dCls r = 0 := dCls_out (by
 simp only [inR, cMAR, List.any_cons, List.any_nil, Bool.or_eq_true, Bool.and_eq_true, decide_eq_true_eq, Bool.false_eq_true, or_false]
 omega)
theorem join_cls {a b : Int} (h : (hJoin a b).2 = true) : dCls b = 0 := by
 rcases hJoin_second h with e | e
 ·have := hPart_two.1 e; exact syl_cls (by omega)
 ·have := hPart_three.1 e; exact syl_cls (by omega)
def chkTri (t : Int × Int × Int) : Bool := decide (dCls t.2.2 = 0) && decide (dCls t.1 = 0) && decide (hPart t.2.2 = 0) && decide (0 < dCls t.2.1) && (!(TRIPLES.any (fun s => decide (s.2.2 = t.1))) || decide (dCls t.2.1 = 230)) && decide (t.1 < 44032) && decide (t.2.2 < 44032)
theorem chkTri_all : TRIPLES.all chkTri = true := by decide +kernel
theorem tri {a b x : Int} (h : dMade a b = x) (g : x ≠ 0) : chkTri (a, b, x) = true ∧ (a, b, x) ∈ TRIPLES := by
 subst h
 have := dMade_mem g
 exact ⟨List.all_eq_true.1 chkTri_all _ this, this⟩
theorem cPair_new {h s x : Int} (e : cPair h s = some x) (p : Int) : dCls x = 0 ∧ hPart x ≠ 2 ∧ hPart x ≠ 3 := by
 rcases cPair_join e with e | ⟨_, _, e, g⟩
 ·have := (hJoin_apart (a := h) (b := s) (by rw [e])).2.2
  rw [e] at this
  exact ⟨syl_cls (.inr this), hPart_syl this⟩
 ·have := (tri e g).1
  simp only [chkTri, Bool.and_eq_true, decide_eq_true_eq] at this
  exact ⟨this.1.1.1.1.1.1, by omega, by omega⟩
theorem cPair_laws : CLawsOf dCls cPair where
 pos := dCls_pos
 zero := fun h r x e => (cPair_new e 0).1
 top := fun h s x u y e1 e2 hu hlt => by
  rcases cPair_join e2 with e | ⟨_, _, e, g⟩
  ·have := join_cls (a := x) (b := u) (by rw [e]); omega
  ·obtain ⟨t1, t2⟩ := tri e g
   simp only [chkTri, Bool.and_eq_true, Bool.or_eq_true, decide_eq_true_eq, Bool.not_eq_true'] at t1
   have hs := dCls_top s
   rcases t1.1.1.2 with c | c
   ·rcases cPair_join e1 with e3 | ⟨_, _, e3, g3⟩
    ·have h4 := (hJoin_apart (a := h) (b := s) (by rw [e3])).2.2
     rw [e3] at h4
     have h5 : x < 44032 := t1.1.2
     have h6 : 44032 ≤ x := h4.1
     omega
    ·have h4 := (tri e3 g3).2
     have : TRIPLES.any (fun s => decide (s.2.2 = x)) = true := List.any_eq_true.2 ⟨_, h4, by simp⟩
     have c' : TRIPLES.any (fun s => decide (s.2.2 = x)) = false := c
     rw [this] at c'
     cases c'
   ·have c' : dCls u = 230 := c
    omega
 new := fun h s x p e => by
  obtain ⟨h0, h2, h3⟩ := cPair_new e p
  have e1 : cPairP p x = (0, false) := by
   unfold cPairP
   rw [if_neg (by simp [hJoin_false (a := p) ⟨h2, h3⟩]), if_neg (by omega)]
  unfold cPair
  rw [e1]
  rfl
end Go.Proofs.Ytbffakgmlgimeaa.Pure
