import Derived.Test.YtmnfdoldoomcgaaDoorQBase
import Derived.Test.YtmnfdoldoomcgaaDoorP1
import Derived.Test.YtmnfdoldoomcgaaDoorP2
import Derived.Test.YtmnfdoldoomcgaaDoorP3
/- Layer 17 (oid): what the checks, the order, 'under' and 'above' tell, program and reference. -/
namespace Go.Proofs.YtmnfdoldoomcgaaDoor.Pure
open Go.RowKit Go.Proofs.YtmnfdoldoomcgaaDoor.P Go.Proofs.YtmnfdoldoomcgaaDoorW.PrintWords Go.Proofs.YtmnfdoldoomcgaaDoorW.PrintLast
set_option linter.unusedVariables false
set_option linter.unusedSimpArgs false
def bad (n : Int) : Bool := decide (n < 0) || decide (n > 99999)
def vld (l : List Int) : Bool := !l.any bad && (decide (2 ≤ l.length) && (decide (l.length ≤ 12) && (decide (rd l 0 ≤ 2) && (decide (rd l 0 = 2) || decide (rd l 1 ≤ 39)))))
theorem oBad_ev (n : Int) : oid_Check_1.f n = some (bad n) := by
 unfold oid_Check_1.f bad
 by_cases h : n < 0
 ·rw [if_pos h]; simp [h]
 ·rw [if_neg h]; simp [h]
theorem oIdx_loop (pre suf : List Int) (hl : pre.length + suf.length ≤ 1000000) :
  ∃ r : Int, Ev (fun k => slices_IndexFunc_int_int_oid_Check_1.l0 k (pre ++ suf) ((pre ++ suf).length : Int) (pre.length : Int)) r ∧ (0 ≤ r ↔ suf.any bad = true) := by
 induction suf generalizing pre with
 | nil =>
  refine ⟨-1, Ev.step (fun k => by simp only [slices_IndexFunc_int_int_oid_Check_1.l0]; rfl) (ev_neg (by simp) (Ev.now _)), by simp⟩
 | cons a suf ih =>
  simp only [List.length_cons] at hl
  cases hb : bad a with
  | true =>
   refine ⟨pre.length, Ev.step (fun k => by simp only [slices_IndexFunc_int_int_oid_Check_1.l0]; rfl) ?_, by simp [hb]⟩
   refine ev_pos (mid_lt pre a suf) (ev_pos (by omega) (ev_pos (mid_lt pre a suf) ?_))
   rw [rd_mid]
   exact ev_bind0 (oBad_ev a) (ev_pos hb (Ev.now _))
  | false =>
   obtain ⟨r, h1, h2⟩ := ih (pre ++ [a]) (by simp; omega)
   refine ⟨r, Ev.step (fun k => by simp only [slices_IndexFunc_int_int_oid_Check_1.l0]; rfl) ?_, by simp [hb, h2]⟩
   refine ev_pos (mid_lt pre a suf) (ev_pos (by omega) (ev_pos (mid_lt pre a suf) ?_))
   rw [rd_mid]
   refine ev_bind0 (oBad_ev a) (ev_neg (by simp [hb]) ?_)
   rw [w64 (by omega) (by omega), ← len_snoc pre a, mid_snoc]
   exact h1
theorem oContains_ev (l : List Int) (hl : l.length ≤ 1000000) (n : Int) : Ev (fun k => slices_ContainsFunc_int_int_oid_Check_1.f k l n) (l.any bad) := by
 obtain ⟨r, h1, h2⟩ := oIdx_loop [] l (by simpa using hl)
 unfold slices_ContainsFunc_int_int_oid_Check_1.f slices_IndexFunc_int_int_oid_Check_1.f
 refine Ev.bind (by simpa using h1) (ev_some ?_)
 rw [Bool.eq_iff_iff]
 simpa using h2
def oCode (l : List Int) : Int := if vld l = true then 0 else 170
theorem check_ev (l : List Int) (hl : l.length ≤ 1000000) : Ev (fun k => oid_Check.f k l) (oCode l) := by
 unfold oid_Check.f oCode vld
 refine Ev.bind (oContains_ev l hl _) ?_
 cases hb : l.any bad with
 | true => exact ev_pos rfl (ev_some (by simp))
 | false =>
  refine ev_neg (by simp) ?_
  by_cases h2 : (l.length : Int) < 2
  ·exact ev_pos h2 (ev_some (by rw [if_neg]; simp; omega))
  refine ev_neg h2 ?_
  by_cases h3 : (l.length : Int) > 12
  ·exact ev_pos h3 (ev_some (by rw [if_neg]; simp; omega))
  refine ev_neg h3 (ev_pos (by omega) ?_)
  by_cases h4 : rd l 0 > 2
  ·exact ev_pos h4 (ev_some (by rw [if_neg]; simp; omega))
  refine ev_neg h4 ?_
  by_cases h5 : rd l 0 < 2
  ·refine ev_pos h5 (ev_pos (by omega) ?_)
   by_cases h6 : rd l 1 > 39
   ·exact ev_pos h6 (ev_some (by rw [if_neg]; simp; omega))
   ·exact ev_neg h6 (ev_some (by rw [if_pos]; simp; omega))
  ·exact ev_neg h5 (ev_some (by rw [if_pos]; simp; omega))
def most (i : Nat) (l : List Int) : Int := if i = 0 then 2 else if i = 1 ∧ rd l 0 ≠ 2 then 39 else 99999
theorem rCheck_loop (pre suf l : List Int) (hl : l = pre ++ suf) (hb : l.length ≤ 1000000) (R : Int)
  (hY : (∀ j, pre.length ≤ j → j < l.length → 0 ≤ rd l (j : Int) ∧ rd l (j : Int) ≤ most j l) → R = 0) (hN : ¬ (∀ j, pre.length ≤ j → j < l.length → 0 ≤ rd l (j : Int) ∧ rd l (j : Int) ≤ most j l) → R = 170) : Ev (fun k => toponymref17_Check.l0 k l (pre.length : Int)) R := by
 induction suf generalizing pre with
 | nil =>
  refine Ev.step (fun k => by simp only [toponymref17_Check.l0]; rfl) (ev_neg (by rw [hl]; simp) (ev_some ?_))
  symm
  apply hY
  intro j h1 h2
  rw [hl] at h2
  simp at h2
  omega
 | cons a suf ih =>
  have hlen : l.length = pre.length + suf.length + 1 := by rw [hl]; simp; omega
  have hra : rd l (pre.length : Int) = a := by rw [hl]; exact rd_mid pre a suf
  refine Ev.step (fun k => by simp only [toponymref17_Check.l0]; rfl) (ev_pos (by omega) ?_)
  have hw : wrap64 ((pre.length : Int) + 1) = ((pre ++ [a]).length : Int) := by rw [w64 (by omega) (by omega), len_snoc]
  -- what one round tells
  have low : a < 0 → R = 170 := fun h => by
   apply hN
   intro g
   have := (g pre.length (Nat.le_refl _) (by omega)).1
   rw [hra] at this
   omega
  have high : a > most pre.length l → R = 170 := fun h => by
   apply hN
   intro g
   have := (g pre.length (Nat.le_refl _) (by omega)).2
   rw [hra] at this
   omega
  have next : 0 ≤ a → a ≤ most pre.length l → Ev (fun k => toponymref17_Check.l0 k l (wrap64 ((pre.length : Int) + 1))) R := fun h0 h1 => by
   rw [hw]
   have hq : (∀ j, pre.length ≤ j → j < l.length → 0 ≤ rd l (j : Int) ∧ rd l (j : Int) ≤ most j l) ↔ (∀ j, (pre ++ [a]).length ≤ j → j < l.length → 0 ≤ rd l (j : Int) ∧ rd l (j : Int) ≤ most j l) := by
    refine ⟨fun g j h2 h3 => g j (by simp at h2; omega) h3, fun g j h2 h3 => ?_⟩
    by_cases e : j = pre.length
    ·subst e; rw [hra]; exact ⟨h0, h1⟩
    ·exact g j (by simp; omega) h3
   exact ih (pre ++ [a]) (by rw [hl]; simp) (fun g => hY (hq.2 g)) (fun g => hN (fun g2 => g (hq.1 g2)))
  have fin : ∀ m : Int, m = most pre.length l → Ev (fun k => if 0 ≤ (pre.length : Int) then (if (pre.length : Int) < (l.length : Int) then (if rd l (pre.length : Int) < 0 then some 170 else (if rd l (pre.length : Int) > m then some 170 else toponymref17_Check.l0 k l (wrap64 ((pre.length : Int) + 1)))) else none) else none) R := fun m hm => by
   refine ev_pos (by omega) (ev_pos (by omega) ?_)
   rw [hra]
   by_cases h0 : a < 0
   ·exact ev_pos h0 (ev_some (low h0).symm)
   refine ev_neg h0 ?_
   by_cases h1 : a > m
   ·exact ev_pos h1 (ev_some (high (by omega)).symm)
   ·exact ev_neg h1 (next (by omega) (by omega))
  have j3 : ∀ (m : Int) (b : Bool), (if b = true then (39 : Int) else m) = most pre.length l → Ev (fun k => toponymref17_Check.j3 k l (pre.length : Int) m b) R := fun m b hm => by
   refine Ev.step (fun k => by simp only [toponymref17_Check.j3]; rfl) ?_
   cases b with
   | true => exact ev_pos rfl (fin 39 (by simpa using hm))
   | false => exact ev_neg (by simp) (fin m (by simpa using hm))
  have j2 : ∀ m : Int, (pre.length = 0 → m = 2) → (pre.length ≠ 0 → m = 99999) → Ev (fun k => toponymref17_Check.j2 k l (pre.length : Int) m) R := fun m h0 h1 => by
   refine Ev.step (fun k => by simp only [toponymref17_Check.j2]; rfl) ?_
   by_cases e : (pre.length : Int) = 1
   ·refine ev_pos e (ev_pos (by omega) (j3 _ _ ?_))
    have e1 : pre.length = 1 := by omega
    have hm := h1 (by omega)
    unfold most
    rw [hm, e1]
    by_cases g : rd l 0 = 2 <;> simp [g]
   ·refine ev_neg e (j3 _ _ ?_)
    unfold most
    by_cases g : pre.length = 0
    ·rw [h0 g, g]
     simp
    ·have g1 : ¬ pre.length = 1 := by omega
     rw [h1 g]
     simp [g, g1]
  by_cases e : (pre.length : Int) = 0
  ·exact ev_pos e (j2 2 (fun _ => rfl) (fun h => by omega))
  ·exact ev_neg e (j2 99999 (fun h => by omega) (fun _ => rfl))
theorem rd_mem (l : List Int) (j : Nat) (h : j < l.length) : rd l (j : Int) ∈ l := by
 unfold rd
 rw [Int.toNat_natCast, List.getD_eq_getElem?_getD, List.getElem?_eq_getElem h]
 exact List.getElem_mem h
theorem vld_iff (l : List Int) : vld l = true ↔ 2 ≤ l.length ∧ l.length ≤ 12 ∧ ∀ j, j < l.length → 0 ≤ rd l (j : Int) ∧ rd l (j : Int) ≤ most j l := by
 unfold vld
 simp only [Bool.and_eq_true, Bool.or_eq_true, decide_eq_true_eq, Bool.not_eq_true']
 constructor
 ·rintro ⟨h1, h2, h3, h4, h5⟩
  refine ⟨h2, h3, fun j hj => ?_⟩
  have hm := List.any_eq_false.1 h1 _ (rd_mem l j hj)
  simp [bad] at hm
  refine ⟨hm.1, ?_⟩
  unfold most
  split
  ·rename_i e; subst e; exact h4
  ·split
   ·rename_i e; obtain ⟨e1, e2⟩ := e
    subst e1
    exact h5.resolve_left e2
   ·exact hm.2
 ·rintro ⟨h2, h3, h⟩
  have h0 := (h 0 (by omega)).2
  have h1 := (h 1 (by omega)).2
  simp only [most, if_pos, Nat.one_ne_zero, if_false, true_and] at h0 h1
  have h0 : rd l 0 ≤ 2 := h0
  have h1 : rd l 1 ≤ if rd l 0 ≠ 2 then 39 else 99999 := h1
  refine ⟨?_, h2, h3, h0, ?_⟩
  ·rw [List.any_eq_false]
   intro x hx
   obtain ⟨j, hj, rfl⟩ := List.mem_iff_getElem.1 hx
   have e : rd l (j : Int) = l[j] := by
    unfold rd
    rw [Int.toNat_natCast, List.getD_eq_getElem?_getD, List.getElem?_eq_getElem hj]
    rfl
   have g := h j hj
   rw [e] at g
   have : most j l ≤ 99999 := by
    unfold most
    split
    ·omega
    ·split <;> omega
   simp [bad]
   omega
  ·by_cases e : rd l 0 = 2
   ·exact Or.inl e
   ·rw [if_pos e] at h1
    exact Or.inr h1
theorem rcheck_ev (l : List Int) (hl : l.length ≤ 1000000) : Ev (fun k => toponymref17_Check.f k l) (oCode l) := by
 unfold toponymref17_Check.f
 have no : ¬ (2 ≤ l.length ∧ l.length ≤ 12) → oCode l = 170 := fun h => by
  unfold oCode
  rw [if_neg]
  rw [vld_iff]
  exact fun g => h ⟨g.1, g.2.1⟩
 by_cases h2 : (l.length : Int) < 2
 ·refine ev_pos h2 (Ev.step (fun k => by simp only [toponymref17_Check.j0]; rfl) ?_)
  exact ev_pos trivial (ev_some (no (by omega)).symm)
 refine ev_neg h2 (Ev.step (fun k => by simp only [toponymref17_Check.j0]; rfl) ?_)
 by_cases h3 : (l.length : Int) > 12
 ·exact ev_pos (by simpa using h3) (ev_some (no (by omega)).symm)
 ·refine ev_neg (by simpa using h3) ?_
  refine rCheck_loop [] l l rfl hl _ (fun g => ?_) (fun g => ?_)
  ·unfold oCode
   rw [if_pos]
   rw [vld_iff]
   exact ⟨by omega, by omega, fun j h => g j (by simp) h⟩
  ·unfold oCode
   rw [if_neg]
   rw [vld_iff]
   exact fun g2 => g (fun j _ h => g2.2.2 j h)
def lc : List Int → List Int → Int
 | [], [] => 0
 | [], _ :: _ => -1
 | _ :: _, [] => 1
 | a :: l, b :: m => if a < b then -1 else if a > b then 1 else lc l m
theorem oCompare_ev (a b : Int) : cmp_Compare_int.f a b = some (if a < b then -1 else if a > b then 1 else 0) := by
 unfold cmp_Compare_int.f cmp_isNaN_int.f
 have h1 : (a != a) = false := by simp
 have h2 : (b != b) = false := by simp
 simp only [h1, h2, Option.bind_some]
 rw [if_neg (by simp), if_neg (by simp)]
 split
 ·rfl
 ·split <;> rfl
theorem rd_len (pre suf : List Int) (a : Int) (n : Int) (h : n = (pre.length : Int)) : rd (pre ++ a :: suf) n = a := by rw [h, rd_mid]
theorem oCmp_loop (pa a pb b : List Int) (hp : pa.length = pb.length) (hb : pa.length + a.length ≤ 1000000) : Ev (fun k => slices_Compare_int_int.l0 k (pa ++ a) (pb ++ b) (pa ++ a) ((pa ++ a).length : Int) (pa.length : Int)) (lc a b) := by
 induction a generalizing pa pb b with
 | nil =>
  refine Ev.step (fun k => by simp only [slices_Compare_int_int.l0]; rfl) (ev_neg (by simp) ?_)
  cases b with
  | nil => exact ev_neg (by simp [hp]) (Ev.now _)
  | cons y b => exact ev_pos (by simp [hp] <;> omega) (Ev.now _)
 | cons x a ih =>
  simp only [List.length_cons] at hb
  refine Ev.step (fun k => by simp only [slices_Compare_int_int.l0]; rfl) (ev_pos (mid_lt pa x a) (ev_pos (by omega) (ev_pos (mid_lt pa x a) ?_)))
  cases b with
  | nil => exact ev_pos (by simp [hp]) (Ev.now _)
  | cons y b =>
   have hy : (pa.length : Int) < ((pb ++ y :: b).length : Int) := by simp [hp]; omega
   refine ev_neg (by omega) (ev_pos hy ?_)
   rw [rd_mid, rd_len pb b y _ (by rw [hp])]
   refine ev_bind0 (oCompare_ev x y) ?_
   unfold lc
   by_cases h1 : x < y
   ·rw [if_pos h1, if_pos h1]; exact ev_neg (by decide) (Ev.now _)
   rw [if_neg h1, if_neg h1]
   by_cases h2 : x > y
   ·rw [if_pos h2, if_pos h2]; exact ev_neg (by decide) (Ev.now _)
   rw [if_neg h2, if_neg h2]
   refine ev_pos rfl ?_
   rw [w64 (by omega) (by omega), ← len_snoc pa x, mid_snoc pa x a, mid_snoc pb y b]
   exact ih (pa ++ [x]) (pb ++ [y]) b (by simp [hp]) (by simp; omega)
theorem cmp_ev (a b : List Int) (hb : a.length ≤ 1000000) : Ev (fun k => oid_Cmp.f k a b) (lc a b) := by
 unfold oid_Cmp.f slices_Compare_int_int.f
 refine Ev.bind ?_ (Ev.now _)
 have := oCmp_loop [] a [] b rfl (by simpa using hb)
 simpa using this
theorem rCmp_loop (pa a pb b : List Int) (hp : pa.length = pb.length) (hb : pa.length + a.length ≤ 1000000) : Ev (fun k => toponymref17_Cmp.l0 k (pa ++ a) (pb ++ b) (pa.length : Int)) (lc a b) := by
 induction a generalizing pa pb b with
 | nil =>
  refine Ev.step (fun k => by simp only [toponymref17_Cmp.l0]; rfl) (ev_neg (by simp) ?_)
  refine Ev.step (fun k => by simp only [toponymref17_Cmp.j1]; rfl) (ev_neg (by simp) ?_)
  cases b with
  | nil => exact ev_neg (by simp [hp]) (ev_neg (by simp [hp]) (Ev.now _))
  | cons y b => exact ev_pos (by simp [hp] <;> omega) (Ev.now _)
 | cons x a ih =>
  simp only [List.length_cons] at hb
  refine Ev.step (fun k => by simp only [toponymref17_Cmp.l0]; rfl) (ev_pos (mid_lt pa x a) ?_)
  refine Ev.step (fun k => by simp only [toponymref17_Cmp.j1]; rfl) ?_
  cases b with
  | nil =>
   refine ev_neg (by simp [hp]) (ev_neg (by simp [hp] <;> omega) (ev_pos (by simp [hp] <;> omega) (Ev.now _)))
  | cons y b =>
   have hy : (pa.length : Int) < ((pb ++ y :: b).length : Int) := by simp [hp]; omega
   refine ev_pos (decide_eq_true hy) (ev_pos (by omega) (ev_pos (mid_lt pa x a) (ev_pos hy ?_)))
   rw [rd_mid, rd_len pb b y _ (by rw [hp])]
   unfold lc
   by_cases h1 : x < y
   ·rw [if_pos h1]; exact ev_pos h1 (Ev.now _)
   rw [if_neg h1]
   refine ev_neg h1 ?_
   by_cases h2 : x > y
   ·rw [if_pos h2]; exact ev_pos h2 (Ev.now _)
   rw [if_neg h2]
   refine ev_neg h2 ?_
   rw [w64 (by omega) (by omega), ← len_snoc pa x, mid_snoc pa x a, mid_snoc pb y b]
   exact ih (pa ++ [x]) (pb ++ [y]) b (by simp [hp]) (by simp; omega)
theorem rcmp_ev (a b : List Int) (hb : a.length ≤ 1000000) : Ev (fun k => toponymref17_Cmp.f k a b) (lc a b) := by
 unfold toponymref17_Cmp.f
 have := rCmp_loop [] a [] b rfl (by simpa using hb)
 simpa using this
theorem lc_self (a : List Int) : lc a a = 0 := by
 induction a with
 | nil => rfl
 | cons x a ih => unfold lc; rw [if_neg (by omega), if_neg (by omega), ih]
theorem lc_zero {a b : List Int} (h : lc a b = 0) : a = b := by
 induction a generalizing b with
 | nil => cases b with
  | nil => rfl
  | cons y b => simp [lc] at h
 | cons x a ih => cases b with
  | nil => simp [lc] at h
  | cons y b =>
   unfold lc at h
   split at h
   ·omega
   ·split at h
    ·omega
    ·have : x = y := by omega
     rw [this, ih h]
theorem lc_cases (a b : List Int) : lc a b = -1 ∨ lc a b = 0 ∨ lc a b = 1 := by
 induction a generalizing b with
 | nil => cases b <;> simp [lc]
 | cons x a ih => cases b with
  | nil => simp [lc]
  | cons y b =>
   unfold lc
   split
   ·simp
   ·split
    ·simp
    ·exact ih b
theorem lc_turn (a b : List Int) : lc b a = -lc a b := by
 induction a generalizing b with
 | nil => cases b <;> rfl
 | cons x a ih => cases b with
  | nil => rfl
  | cons y b =>
   by_cases h1 : x < y
   ·have h2 : ¬ y < x := by omega
    simp [lc, h1, h2]
   ·by_cases h2 : y < x
    ·simp [lc, h1, h2]
    ·simp [lc, h1, h2, ih b]
theorem lc_trans {a b c : List Int} (h1 : lc a b ≤ 0) (h2 : lc b c ≤ 0) : lc a c ≤ 0 := by
 induction a generalizing b c with
 | nil => cases c <;> simp [lc]
 | cons x a ih => cases b with
  | nil => simp [lc] at h1
  | cons y b => cases c with
   | nil => simp [lc] at h2
   | cons z c =>
    unfold lc at h1 h2 ⊢
    split at h1
    ·split at h2
     ·rw [if_pos (by omega)]; omega
     ·split at h2
      ·omega
      ·rw [if_pos (by omega)]; omega
    ·split at h1
     ·omega
     ·split at h2
      ·rw [if_pos (by omega)]; omega
      ·split at h2
       ·omega
       ·rw [if_neg (by omega), if_neg (by omega)]
        exact ih h1 h2
theorem same_ev (a b : List Int) (hb : a.length ≤ 1000000) : Ev (fun k => toponymlaw17_same.f k a b) (decide (a = b)) := by
 unfold toponymlaw17_same.f
 refine ev_ite (fun h => ?_) (fun h => ev_some ?_)
 ·refine Ev.bind (rcmp_ev a b hb) (ev_some ?_)
  rw [Bool.eq_iff_iff]
  simp only [beq_iff_eq, decide_eq_true_eq]
  exact ⟨lc_zero, fun e => by rw [e, lc_self]⟩
 ·symm
  rw [decide_eq_false_iff_not]
  intro e
  rw [e] at h
  exact h rfl
theorem oEq_loop (pa a pb b : List Int) (hp : pa.length = pb.length) (hl : a.length = b.length) (hb : pa.length + a.length ≤ 1000000) (n : Int) (hn : n = ((pa ++ a).length : Int)) : Ev (fun k => slices_Equal_int_int.l0 k (pa ++ a) (pb ++ b) n (pa.length : Int)) (decide (a = b)) := by
 subst hn
 induction a generalizing pa pb b with
 | nil =>
  obtain rfl : b = [] := List.eq_nil_of_length_eq_zero (by simpa using hl.symm)
  exact Ev.step (fun k => by simp only [slices_Equal_int_int.l0]; rfl) (ev_neg (by simp) (ev_some (by simp)))
 | cons x a ih =>
  cases b with
  | nil => simp at hl
  | cons y b =>
   simp only [List.length_cons] at hb hl
   have hy : (pa.length : Int) < ((pb ++ y :: b).length : Int) := by simp [hp]; omega
   refine Ev.step (fun k => by simp only [slices_Equal_int_int.l0]; rfl) (ev_pos (mid_lt pa x a) (ev_pos (by omega) (ev_pos (mid_lt pa x a) (ev_pos hy ?_))))
   rw [rd_mid, rd_len pb b y _ (by rw [hp])]
   by_cases h : x = y
   ·refine ev_pos h ?_
    rw [w64 (by omega) (by omega), ← len_snoc pa x, mid_snoc pa x a, mid_snoc pb y b]
    refine ev_eq (ih (pa ++ [x]) (pb ++ [y]) b (by simp [hp]) (by omega) (by simp; omega)) ?_
    simp [h]
   ·exact ev_neg h (ev_some (by simp [h]))
theorem oeq_ev (a b : List Int) (hb : a.length ≤ 1000000) : Ev (fun k => slices_Equal_int_int.f k a b) (decide (a = b)) := by
 unfold slices_Equal_int_int.f
 refine ev_ite (fun h => ?_) (fun h => ev_some ?_)
 ·have := oEq_loop [] a [] b rfl (by omega) (by simpa using hb) (a.length : Int) (by simp)
  simpa using this
 ·symm
  rw [decide_eq_false_iff_not]
  intro e
  rw [e] at h
  exact h rfl
def under (a b : List Int) : Bool := vld a && (vld b && (decide (b.length ≤ a.length) && decide (a.take b.length = b)))
theorem code_zero (l : List Int) : oCode l = 0 ↔ vld l = true := by
 unfold oCode
 split <;> rename_i h <;> simp [h]
theorem under_ev (a b : List Int) (ha : a.length ≤ 1000000) (hb : b.length ≤ 1000000) : Ev (fun k => oid_Under.f k a b) (under a b) := by
 unfold oid_Under.f under
 refine Ev.bind (check_ev a ha) (ev_ite (fun h1 => ?_) (fun h1 => ev_some ?_))
 ·refine Ev.bind (check_ev b hb) (ev_ite (fun h2 => ?_) (fun h2 => ev_some ?_))
  ·rw [(code_zero a).1 h1, (code_zero b).1 h2]
   refine ev_ite (fun h3 => ?_) (fun h3 => ev_some ?_)
   ·refine ev_pos (by omega) (ev_pos (by omega) (Ev.bind (oeq_ev _ b (by simp; omega)) (ev_some ?_)))
    have : b.length ≤ a.length := by omega
    simp [this]
   ·have : ¬ b.length ≤ a.length := by omega
    simp [this]
  ·rw [code_zero] at h2; simp [h2]
 ·rw [code_zero] at h1; simp [h1]
theorem runder_ev (a b : List Int) (ha : a.length ≤ 1000000) (hb : b.length ≤ 1000000) : Ev (fun k => toponymref17_Under.f k a b) (under a b) := by
 unfold toponymref17_Under.f under
 refine Ev.bind (rcheck_ev a ha) (ev_ite (fun h1 => ?_) (fun h1 => ev_some ?_))
 ·refine Ev.bind (rcheck_ev b hb) (ev_ite (fun h2 => ?_) (fun h2 => ev_some ?_))
  ·rw [(code_zero a).1 h1, (code_zero b).1 h2]
   refine ev_ite (fun h3 => ?_) (fun h3 => ev_some ?_)
   ·refine ev_pos (by omega) (Ev.bind (rcmp_ev _ b (by simp; omega)) (ev_some ?_))
    have h4 : b.length ≤ a.length := by omega
    rw [Bool.eq_iff_iff]
    simp only [beq_iff_eq, h4, decide_true, Bool.true_and, decide_eq_true_eq, Int.toNat_natCast]
    exact ⟨lc_zero, fun e => by rw [e, lc_self]⟩
   ·have : ¬ b.length ≤ a.length := by omega
    simp [this]
  ·rw [code_zero] at h2; simp [h2]
 ·rw [code_zero] at h1; simp [h1]
def above (l : List Int) : List Int := if vld l = true ∧ 3 ≤ l.length then l.take (l.length - 1) else []
theorem clone_ev (l : List Int) (hl : l.length ≤ 1000000) : slices_Clone_int_int.f l = some l := by
 unfold slices_Clone_int_int.f
 rw [if_pos (by omega)]
theorem above_ev (l : List Int) (hl : l.length ≤ 1000000) : Ev (fun k => oid_Above.f k l) (above l) := by
 unfold oid_Above.f above
 refine Ev.bind (check_ev l hl) (ev_ite (fun h1 => ?_) (fun h1 => ev_some ?_))
 ·rw [(code_zero l).1 h1]
  refine ev_ite (fun h2 => ?_) (fun h2 => ev_some (by simp [h2]))
  refine ev_bind0 (clone_ev l hl) (ev_some (by simp [h2]))
 ·rw [code_zero] at h1; simp [h1]
theorem rabove_ev (l : List Int) (hl : l.length ≤ 1000000) : Ev (fun k => toponymref17_Above.f k l) (above l) := by
 unfold toponymref17_Above.f above
 refine Ev.bind (rcheck_ev l hl) (ev_ite (fun h1 => ?_) (fun h1 => ev_some ?_))
 ·have hv := (code_zero l).1 h1
  have h2 := ((vld_iff l).1 hv).1
  rw [hv]
  refine ev_ite (fun h3 => ev_some ?_) (fun h3 => ev_bind0 rfl ?_)
  ·rw [if_neg (by omega)]
  ·have hw : wrap64 ((l.length : Int) - 1) = (l.length : Int) - 1 := w64 (by omega) (by omega)
   rw [hw]
   have ht : ((l.length : Int) - 1).toNat = l.length - 1 := by omega
   rw [ht]
   refine ev_pos (by omega) (ev_pos (by omega) (ev_pos (by simp; omega) (ev_some ?_)))
   rw [if_pos ⟨rfl, by omega⟩]
   simp
 ·rw [code_zero] at h1; simp [h1]
theorem awake17_ev : Ev (fun k => toponymlaw17_awake.f k) true := by
 refine Ev.of toponymlaw17_awake.mono (k := 100) ?_
 decide +kernel
end Go.Proofs.YtmnfdoldoomcgaaDoor.Pure
