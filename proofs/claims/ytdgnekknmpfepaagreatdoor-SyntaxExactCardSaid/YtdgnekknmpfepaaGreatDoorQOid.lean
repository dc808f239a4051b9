import Derived.Test.YtdgnekknmpfepaaGreatDoorQBase
import Derived.Test.YtdgnekknmpfepaaGreatDoorP7
/- Layer 17 (oid): what the checks, the order, 'under' and 'above' tell, program and reference. -/
namespace Go.Proofs.YtdgnekknmpfepaaGreatDoor.Pure.O
open Go.RowKit Go.Proofs.YtdgnekknmpfepaaGreatDoor.P Go.Proofs.YtdgnekknmpfepaaGreatDoorW.PrintWords Go.Proofs.YtdgnekknmpfepaaGreatDoorW.PrintLast
set_option linter.unusedVariables false
set_option linter.unusedSimpArgs false
def bad (n : Int) : Bool := decide (n < 0) || decide (n > 99999)
def vld (l : List Int) : Bool := !l.any bad && (decide (2 ≤ l.length) && (decide (l.length ≤ 12) && (decide (rd l 0 ≤ 2) && (decide (rd l 0 = 2) || decide (rd l 1 ≤ 39)))))
theorem oBad_ev (n : Int) : oid_Check_1.f n = some (bad n) := by
 unfold oid_Check_1.f bad
 by_cases h : n < 0
 ·rw [if_pos h]; simp [h]
 ·rw [if_neg h]; simp [h]
theorem oIdx_loop (pre suf : List Int) (hl : pre.length + suf.length ≤ 1000000) :
  ∃ r : Int, Ev (fun k => slices_IndexFunc_int_int_oid_Check_1.l0 k (pre ++ suf) ((pre ++ suf).length : Int) (pre.length : Int)) r ∧ (0 ≤ r ↔ suf.any bad = true) := by
 induction suf generalizing pre with
 | nil =>
  refine ⟨-1, Ev.step (fun k => by simp only [slices_IndexFunc_int_int_oid_Check_1.l0]; rfl) (ev_neg (by simp) (Ev.now _)), by simp⟩
 | cons a suf ih =>
  simp only [List.length_cons] at hl
  cases hb : bad a with
  | true =>
   refine ⟨pre.length, Ev.step (fun k => by simp only [slices_IndexFunc_int_int_oid_Check_1.l0]; rfl) ?_, by simp [hb]⟩
   refine ev_pos (mid_lt pre a suf) (ev_pos (by omega) (ev_pos (mid_lt pre a suf) ?_))
   rw [rd_mid]
   exact ev_bind0 (oBad_ev a) (ev_pos hb (Ev.now _))
  | false =>
   obtain ⟨r, h1, h2⟩ := ih (pre ++ [a]) (by simp; omega)
   refine ⟨r, Ev.step (fun k => by simp only [slices_IndexFunc_int_int_oid_Check_1.l0]; rfl) ?_, by simp [hb, h2]⟩
   refine ev_pos (mid_lt pre a suf) (ev_pos (by omega) (ev_pos (mid_lt pre a suf) ?_))
   rw [rd_mid]
   refine ev_bind0 (oBad_ev a) (ev_neg (by simp [hb]) ?_)
   rw [w64 (by omega) (by omega), ← len_snoc pre a, mid_snoc]
   exact h1
theorem oContains_ev (l : List Int) (hl : l.length ≤ 1000000) (n : Int) : Ev (fun k => slices_ContainsFunc_int_int_oid_Check_1.f k l n) (l.any bad) := by
 obtain ⟨r, h1, h2⟩ := oIdx_loop [] l (by simpa using hl)
 unfold slices_ContainsFunc_int_int_oid_Check_1.f slices_IndexFunc_int_int_oid_Check_1.f
 refine Ev.bind (by simpa using h1) (ev_some ?_)
 rw [Bool.eq_iff_iff]
 simpa using h2
def oCode (l : List Int) : Int := if vld l = true then 0 else 170
theorem check_ev (l : List Int) (hl : l.length ≤ 1000000) : Ev (fun k => oid_Check.f k l) (oCode l) := by
 unfold oid_Check.f oCode vld
 refine Ev.bind (oContains_ev l hl _) ?_
 cases hb : l.any bad with
 | true => exact ev_pos rfl (ev_some (by simp))
 | false =>
  refine ev_neg (by simp) ?_
  by_cases h2 : (l.length : Int) < 2
  ·exact ev_pos h2 (ev_some (by rw [if_neg]; simp; omega))
  refine ev_neg h2 ?_
  by_cases h3 : (l.length : Int) > 12
  ·exact ev_pos h3 (ev_some (by rw [if_neg]; simp; omega))
  refine ev_neg h3 (ev_pos (by omega) ?_)
  by_cases h4 : rd l 0 > 2
  ·exact ev_pos h4 (ev_some (by rw [if_neg]; simp; omega))
  refine ev_neg h4 ?_
  by_cases h5 : rd l 0 < 2
  ·refine ev_pos h5 (ev_pos (by omega) ?_)
   by_cases h6 : rd l 1 > 39
   ·exact ev_pos h6 (ev_some (by rw [if_neg]; simp; omega))
   ·exact ev_neg h6 (ev_some (by rw [if_pos]; simp; omega))
  ·exact ev_neg h5 (ev_some (by rw [if_pos]; simp; omega))
def most (i : Nat) (l : List Int) : Int := if i = 0 then 2 else if i = 1 ∧ rd l 0 ≠ 2 then 39 else 99999
theorem rd_mem (l : List Int) (j : Nat) (h : j < l.length) : rd l (j : Int) ∈ l := by
 unfold rd
 rw [Int.toNat_natCast, List.getD_eq_getElem?_getD, List.getElem?_eq_getElem h]
 exact List.getElem_mem h
theorem vld_iff (l : List Int) : vld l = true ↔ 2 ≤ l.length ∧ l.length ≤ 12 ∧ ∀ j, j < l.length → 0 ≤ rd l (j : Int) ∧ rd l (j : Int) ≤ most j l := by
 unfold vld
 simp only [Bool.and_eq_true, Bool.or_eq_true, decide_eq_true_eq, Bool.not_eq_true']
 constructor
 ·rintro ⟨h1, h2, h3, h4, h5⟩
  refine ⟨h2, h3, fun j hj => ?_⟩
  have hm := List.any_eq_false.1 h1 _ (rd_mem l j hj)
  simp [bad] at hm
  refine ⟨hm.1, ?_⟩
  unfold most
  split
  ·rename_i e; subst e; exact h4
  ·split
   ·rename_i e; obtain ⟨e1, e2⟩ := e
    subst e1
    exact h5.resolve_left e2
   ·exact hm.2
 ·rintro ⟨h2, h3, h⟩
  have h0 := (h 0 (by omega)).2
  have h1 := (h 1 (by omega)).2
  simp only [most, if_pos, Nat.one_ne_zero, if_false, true_and] at h0 h1
  have h0 : rd l 0 ≤ 2 := h0
  have h1 : rd l 1 ≤ if rd l 0 ≠ 2 then 39 else 99999 := h1
  refine ⟨?_, h2, h3, h0, ?_⟩
  ·rw [List.any_eq_false]
   intro x hx
   obtain ⟨j, hj, rfl⟩ := List.mem_iff_getElem.1 hx
   have e : rd l (j : Int) = l[j] := by
    unfold rd
    rw [Int.toNat_natCast, List.getD_eq_getElem?_getD, List.getElem?_eq_getElem hj]
    rfl
   have g := h j hj
   rw [e] at g
   have : most j l ≤ 99999 := by
    unfold most
    split
    ·omega
    ·split <;> omega
   simp [bad]
   omega
  ·by_cases e : rd l 0 = 2
   ·exact Or.inl e
   ·rw [if_pos e] at h1
    exact Or.inr h1
def lc : List Int → List Int → Int
 | [], [] => 0
 | [], _ :: _ => -1
 | _ :: _, [] => 1
 | a :: l, b :: m => if a < b then -1 else if a > b then 1 else lc l m
theorem rd_len (pre suf : List Int) (a : Int) (n : Int) (h : n = (pre.length : Int)) : rd (pre ++ a :: suf) n = a := by rw [h, rd_mid]
theorem lc_self (a : List Int) : lc a a = 0 := by
 induction a with
 | nil => rfl
 | cons x a ih => unfold lc; rw [if_neg (by omega), if_neg (by omega), ih]
theorem lc_zero {a b : List Int} (h : lc a b = 0) : a = b := by
 induction a generalizing b with
 | nil => cases b with
  | nil => rfl
  | cons y b => simp [lc] at h
 | cons x a ih => cases b with
  | nil => simp [lc] at h
  | cons y b =>
   unfold lc at h
   split at h
   ·omega
   ·split at h
    ·omega
    ·have : x = y := by omega
     rw [this, ih h]
theorem lc_cases (a b : List Int) : lc a b = -1 ∨ lc a b = 0 ∨ lc a b = 1 := by
 induction a generalizing b with
 | nil => cases b <;> simp [lc]
 | cons x a ih => cases b with
  | nil => simp [lc]
  | cons y b =>
   unfold lc
   split
   ·simp
   ·split
    ·simp
    ·exact ih b
theorem lc_turn (a b : List Int) : lc b a = -lc a b := by
 induction a generalizing b with
 | nil => cases b <;> rfl
 | cons x a ih => cases b with
  | nil => rfl
  | cons y b =>
   by_cases h1 : x < y
   ·have h2 : ¬ y < x := by omega
    simp [lc, h1, h2]
   ·by_cases h2 : y < x
    ·simp [lc, h1, h2]
    ·simp [lc, h1, h2, ih b]
theorem lc_trans {a b c : List Int} (h1 : lc a b ≤ 0) (h2 : lc b c ≤ 0) : lc a c ≤ 0 := by
 induction a generalizing b c with
 | nil => cases c <;> simp [lc]
 | cons x a ih => cases b with
  | nil => simp [lc] at h1
  | cons y b => cases c with
   | nil => simp [lc] at h2
   | cons z c =>
    unfold lc at h1 h2 ⊢
    split at h1
    ·split at h2
     ·rw [if_pos (by omega)]; omega
     ·split at h2
      ·omega
      ·rw [if_pos (by omega)]; omega
    ·split at h1
     ·omega
     ·split at h2
      ·rw [if_pos (by omega)]; omega
      ·split at h2
       ·omega
       ·rw [if_neg (by omega), if_neg (by omega)]
        exact ih h1 h2
def under (a b : List Int) : Bool := vld a && (vld b && (decide (b.length ≤ a.length) && decide (a.take b.length = b)))
theorem code_zero (l : List Int) : oCode l = 0 ↔ vld l = true := by
 unfold oCode
 split <;> rename_i h <;> simp [h]
def above (l : List Int) : List Int := if vld l = true ∧ 3 ≤ l.length then l.take (l.length - 1) else []
end Go.Proofs.YtdgnekknmpfepaaGreatDoor.Pure.O
