import Derived.Test.YtpihglokjcbjkaaQPair
import Derived.Test.YtpihglokjcbjkaaQClassRef
import Derived.Test.YtpihglokjcbjkaaQJoinRef
import Derived.Test.YtpihglokjcbjkaaT7
/- The reference's Made and Pair are the program's. -/
namespace Go.Proofs.Ytpihglokjcbjkaa.Pure
open Go.RowKit Go.Proofs.Ytpihglokjcbjkaa.P Go.Proofs.YtpihglokjcbjkaaW.PrintWords Go.Proofs.YtpihglokjcbjkaaW.PrintLast
open Hangul
set_option linter.unusedVariables false
set_option linter.unusedSimpArgs false
set_option maxRecDepth 100000
def scanM (a b c : Int) : List Int → Option Int
 | x :: m :: t => if c = a ∧ m = b then some x else scanM a b c t
 | _ => none
def rMadeL (a b : Int) : List S89 → Int
 | [] => 0
 | w :: t => match scanM a b w.f0 w.f1 with | some x => x | none => rMadeL a b t
def BASES : List S89 := (toponymref05_Bases.f).getD []
theorem bases_eq : toponymref05_Bases.f = some BASES := by
 have : toponymref05_Bases.f.isSome = true := by decide +kernel
 obtain ⟨x, hx⟩ := Option.isSome_iff_exists.1 this
 rw [BASES, hx]; rfl
theorem rdB_mid (pre : List S89) (a : S89) (suf : List S89) : rd_T89 (pre ++ a :: suf) (pre.length : Int) = a := by
 simp [rd_T89, List.getD_eq_getElem?_getD]
theorem rd_mid1 (p : List Int) (a r : Int) (s : List Int) : rd (p ++ a :: r :: s) ((p.length : Int) + 1) = r := by
 have := rd_mid (p ++ [a]) r s
 simpa using this
theorem rmade_in (a b : Int) (L : List S89) (w : S89) (i R : Int) (h0 : 0 ≤ i) (h1 : i < (L.length : Int)) (hw : rd_T89 L i = w) :
  ∀ (n : Nat) (pre suf : List Int), suf.length ≤ n → w.f1 = pre ++ suf → pre.length + suf.length < 1000 →
   Ev (fun k => match scanM a b w.f0 suf with | some x => some x | none => toponymref05_Made.l0 k a b L (wrap64 (i + 1))) R → Ev (fun k => toponymref05_Made.l1 k a b L i (pre.length : Int)) R := by
 intro n
 induction n using Nat.strongRecOn with
 | _ n ih =>
 intro pre suf hn hs hb next
 refine Ev.step (fun k => by simp only [toponymref05_Made.l1]; rfl) ?_
 refine ev_pos h0 (ev_pos h1 ?_)
 rw [hw, hs, w64 (x := (pre.length : Int) + 1) (by omega) (by omega)]
 match suf, hn, hs, hb, next with
 | [], _, _, _, next =>
  refine ev_neg (by simp <;> omega) ?_
  exact next
 | [x], _, _, _, next =>
  refine ev_neg (by simp <;> omega) ?_
  exact next
 | x :: m :: t, hn, hs, hb, next =>
  simp only [List.length_cons] at hb hn
  refine ev_pos (by simp; omega) ?_
  have go : ¬ (w.f0 = a ∧ m = b) → Ev (fun k => toponymref05_Made.l1 k a b L i (wrap64 ((pre.length : Int) + 2))) R := by
   intro hne
   have := ih t.length (by omega) (pre ++ [x, m]) t (Nat.le_refl _) (by rw [hs]; simp) (by simp; omega) (by
    simp only [scanM, if_neg hne] at next
    exact next)
   rw [w64 (by omega) (by omega)]
   simpa using this
  refine ev_ite (fun g => ?_) (fun g => go (fun e => g e.1))
  refine ev_pos (by omega) ?_
  rw [rd_mid1]
  refine ev_ite (fun g2 => ?_) (fun g2 => go (fun e => g2 e.2))
  refine ev_pos (by omega) (ev_pos (by simp; omega) ?_)
  rw [rd_mid]
  simp only [scanM, if_pos (show w.f0 = a ∧ m = b from ⟨g, g2⟩)] at next
  exact next
theorem rmade_loop (a b : Int) (pre suf : List S89) (hb : pre.length + suf.length < 1000) (ho : suf.all (fun w => decide (w.f1.length < 1000)) = true) :
  Ev (fun k => toponymref05_Made.l0 k a b (pre ++ suf) (pre.length : Int)) (rMadeL a b suf) := by
 induction suf generalizing pre with
 | nil =>
  refine Ev.step (fun k => by simp only [toponymref05_Made.l0]; rfl) ?_
  exact ev_neg (by simp) (ev_some rfl)
 | cons w t ih =>
  refine Ev.step (fun k => by simp only [toponymref05_Made.l0]; rfl) ?_
  simp only [List.length_cons] at hb
  simp only [List.all_cons, Bool.and_eq_true, decide_eq_true_eq] at ho
  refine ev_pos (by simp; omega) ?_
  refine rmade_in a b _ w (pre.length : Int) _ (by omega) (by simp; omega) (rdB_mid pre w t) w.f1.length [] w.f1 (Nat.le_refl _) rfl (by simpa using ho.1) ?_
  unfold rMadeL
  cases scanM a b w.f0 w.f1 with
  | some x => exact ev_some rfl
  | none =>
   have := ih (pre ++ [w]) (by simp; omega) ho.2
   rw [w64 (by omega) (by omega)]
   simpa using this
def rMade (a b : Int) : Int := rMadeL a b BASES
theorem rmade_ev (a b : Int) : Ev (fun k => toponymref05_Made.f k a b) (rMade a b) := by
 unfold toponymref05_Made.f
 refine ev_bind0 bases_eq ?_
 have := rmade_loop a b [] BASES (by decide +kernel) (by decide +kernel)
 unfold rMade
 simpa using this
def triM (c : Int) : List Int → List (Int × Int × Int)
 | x :: m :: t => (c, m, x) :: triM c t
 | _ => []
def RTRI : List (Int × Int × Int) := BASES.flatMap (fun w => triM w.f0 w.f1)
theorem scanM_mem {a b c x : Int} : ∀ {n : Nat} {l : List Int}, l.length ≤ n → scanM a b c l = some x → (a, b, x) ∈ triM c l := by
 intro n
 induction n using Nat.strongRecOn with
 | _ n ih =>
 intro l hn h
 match l, hn, h with
 | [], _, h => simp [scanM] at h
 | [y], _, h => simp [scanM] at h
 | y :: m :: t, hn, h =>
  simp only [List.length_cons] at hn
  simp only [scanM] at h
  simp only [triM]
  by_cases g : c = a ∧ m = b
  ·rw [if_pos g] at h
   injection h with h
   rw [g.1, g.2, h]
   simp
  ·rw [if_neg g] at h
   exact List.mem_cons_of_mem _ (ih t.length (by omega) (Nat.le_refl _) h)
theorem rMadeL_mem {a b : Int} {l : List S89} (h : rMadeL a b l ≠ 0) : (a, b, rMadeL a b l) ∈ l.flatMap (fun w => triM w.f0 w.f1) := by
 induction l with
 | nil => exact absurd rfl h
 | cons w t ih =>
  unfold rMadeL at h ⊢
  rw [List.flatMap_cons]
  cases e : scanM a b w.f0 w.f1 with
  | some x => exact List.mem_append.2 (.inl (scanM_mem (Nat.le_refl _) e))
  | none =>
   simp only [e] at h
   exact List.mem_append.2 (.inr (ih h))
theorem tri_there : TRIPLES.all (fun t => rMade t.1 t.2.1 == t.2.2) = true := by decide +kernel
theorem rtri_there : RTRI.all (fun t => dMade t.1 t.2.1 == t.2.2) = true := by decide +kernel
theorem rMade_eq (a b : Int) : rMade a b = dMade a b := by
 by_cases h : dMade a b = 0
 ·by_cases g : rMade a b = 0
  ·rw [h, g]
  ·have := List.all_eq_true.1 rtri_there _ (rMadeL_mem g)
   simp only [beq_iff_eq] at this
   exact this.symm
 ·have := List.all_eq_true.1 tri_there _ (dMade_mem h)
  simpa using this
theorem rpair_ev (a b : Int) : Ev (fun k => toponymref07_Pair.f k a b) (cPairP a b) := by
 unfold toponymref07_Pair.f
 refine Ev.bind (rclass_ev b) ?_
 have hp := dCls_pos b
 have hj : (hJoin a b).2 = true → dCls b = 0 := join_cls
 refine ev_ite (fun h => ?_) (fun h => ?_)
 ·refine Ev.bind (rjoin_ev a b) (ev_some ?_)
  unfold cPairP
  by_cases g : (hJoin a b).2 = true
  ·rw [if_pos g, ← g]
  ·rw [if_neg g, if_neg (by omega)]
   have := hJoin_no (a := a) (b := b) (by simpa using g)
   rw [this]
 ·have g : ¬ (hJoin a b).2 = true := fun e => h (hj e)
  refine Ev.bind (rmade_ev a b) ?_
  rw [rMade_eq]
  unfold cPairP
  rw [if_neg g, if_pos (by omega)]
  refine ev_ite (fun e => ?_) (fun e => ?_)
  ·refine Ev.bind (rjoin_ev a b) (ev_some ?_)
   rw [hJoin_no (a := a) (b := b) (by simpa using g), e]
   rfl
  ·exact ev_some (by simp [e])
end Go.Proofs.Ytpihglokjcbjkaa.Pure
