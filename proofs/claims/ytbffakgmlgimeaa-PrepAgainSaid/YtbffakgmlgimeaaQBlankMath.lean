import Derived.Test.YtbffakgmlgimeaaQBlankEv

/- Blanks, the plain law: told again it is the same. -/
namespace Go.Proofs.Ytbffakgmlgimeaa.P
end Go.Proofs.Ytbffakgmlgimeaa.P
namespace Go.Proofs.Ytbffakgmlgimeaa.Pure
open Go.RowKit Go.Proofs.Ytbffakgmlgimeaa.P Go.Proofs.YtbffakgmlgimeaaW.PrintWords Go.Proofs.YtbffakgmlgimeaaW.PrintLast
set_option linter.unusedVariables false
set_option linter.unusedSimpArgs false
theorem leftS_length {S mk : Int → Bool} (l : List Int) : (leftS (S := S) (mk := mk) l).length ≤ l.length := by
 unfold leftS
 rw [List.length_map]
 have := List.length_filter_le (fun x : Int × Bool => !x.2) (tgS S mk l)
 rw [tgS_length] at this
 exact this
theorem pieceB_length (l : List Int) (a b : Bool) : (pieceB l a b).length ≤ 3 * l.length + 2 := by
 have h2 := (join2_size l).1
 unfold pieceB vEdge
 split
 ·cases a <;> cases b <;> simp
 ·simp only [List.length_append]
  have e1 : ∀ c : Bool, (if c = true then [(32 : Int)] else []).length ≤ 1 := by intro c; cases c <;> simp
  have := e1 a
  have := e1 b
  omega
theorem vPiece_length (kind : Int) (l : List Int) : (vPiece kind l).length ≤ 3 * l.length + 5 := by
 have h1 := vFirm_length l
 unfold vPiece
 split
 ·simp
 split
 ·have := pieceB_length (vFirm l) true (atS sp (vFirm l) ((vFirm l).length - 1)); omega
 ·have := pieceB_length l (atS sp l 0) (decide (kind = 3) || atS sp l (l.length - 1)); omega
theorem bare32 (t : List Int) : bareL mkc (32 :: t) = true := by simp [bareL, mkc32]
theorem tg32 (t : List Int) (h : bareL mkc t = true) : tg mkc (32 :: t) = (32, true) :: tg mkc t := by
 rw [show tg mkc (32 :: t) = (32, sp 32 && bareL mkc t) :: tg mkc t from rfl, h]
 rfl
theorem wd_end (b : Bool) : bareL mkc (if b then [32] else []) = true ∧ (wd (tg mkc (if b then [32] else []))).1 = [] ∧ wds (tg mkc (if b then [32] else [])) = [] := by
 cases b
 ·exact ⟨rfl, rfl, rfl⟩
 ·refine ⟨bare32 [], ?_, ?_⟩
  ·rw [show (if true = true then [(32 : Int)] else []) = [32] from rfl, tg32 [] rfl]; rfl
  ·rw [show (if true = true then [(32 : Int)] else []) = [32] from rfl, tg32 [] rfl]; rfl
theorem wds_again (l : List Int) (b : Bool) : wds (tg mkc (join2 (wds (tg mkc l)) ++ (if b then [32] else []))) = wds (tg mkc l) := by
 obtain ⟨h1, h2, h3⟩ := wd_end b
 rw [wds_join mkc32 _ (wds_ok mkc32 l) (fun w x e => wds_tail_bare mkc32 l w x e) _ h1 h2, h3, List.append_nil]
theorem join_bare (l : List Int) (hl : bareL mkc l = true) (b : Bool) : bareL mkc (join2 (wds (tg mkc l)) ++ (if b then [32] else [])) = true := by
 rw [bareL_app _ _ (wd_end b).1]
 cases e : wds (tg mkc l) with
 | nil => rfl
 | cons w ws =>
  have hb := wds_bare mkc32 l hl w (by rw [e]; simp)
  have hn := (wds_ok mkc32 l w (by rw [e]; simp)).1
  cases w with
  | nil => exact absurd rfl hn
  | cons a t => exact hb
theorem vFirm_id {l : List Int} (h : bareL mkc l = true) : vFirm l = l := by unfold vFirm; rw [if_pos h]
theorem wds_value (l : List Int) : wds (tg mkc (vVal l)) = wds (tg mkc (vFirm l)) := by
 unfold vVal
 have h := join_bare (vFirm l) (vFirm_bare l) true
 have h' : bareL mkc (join2 (wds (tg mkc (vFirm l))) ++ [32]) = true := h
 rw [tg32 _ h', wds_sp]
 exact wds_again (vFirm l) true
theorem vVal_twice (l : List Int) : vVal (vVal l) = vVal l := by
 have h1 : vFirm (vVal l) = vVal l := vFirm_id (bare32 _)
 show 32 :: (join2 (wds (tg mkc (vFirm (vVal l)))) ++ [32]) = vVal l
 rw [h1, wds_value]
 rfl
theorem atS_zero (S : Int → Bool) (a : Int) (t : List Int) : atS S (a :: t) 0 = (S a && bareL mkc t) := by
 unfold atS
 rw [if_pos (by simp <;> omega)]
 rfl
theorem atS_last (S : Int → Bool) (q : List Int) (a : Int) : atS S (q ++ [a]) ((q ++ [a]).length - 1) = S a := by
 unfold atS
 have hl : ((q ++ [a]).length : Int) = q.length + 1 := by simp
 rw [if_pos (by omega)]
 have e : (((q ++ [a]).length : Int) - 1).toNat = q.length := by omega
 rw [e]
 have e2 : (q ++ [a]).drop (q.length + 1) = [] := List.drop_of_length_le (by simp)
 rw [e2]
 simp [bareL, List.getD_eq_getElem?_getD]
theorem okW_last {w : List Int} (h : okW mkc w) : ∃ q c, w = q ++ [c] ∧ sp c = false := by
 obtain ⟨hn, ht⟩ := h
 rcases List.eq_nil_or_concat w with rfl | ⟨q, c, rfl⟩
 ·exact absurd rfl hn
 ·rw [List.concat_eq_append] at *
  refine ⟨q, c, rfl, ?_⟩
  clear hn
  induction q with
  | nil =>
   have : (c, sp c && bareL mkc []) = (c, false) := (List.cons.inj ht).1
   simpa [bareL] using this
  | cons x q ih => exact ih (List.cons.inj ht).2
theorem okW_first {a : Int} {t : List Int} (h : okW mkc (a :: t)) : (sp a && bareL mkc t) = false := by
 have := (List.cons.inj h.2).1
 simpa using this
theorem tails_last {ws : List (List Int)} (hw : ∀ w ∈ ws, okW mkc w) (h : ws ≠ []) : ∃ q c, tails ws = q ++ [c] ∧ sp c = false := by
 rcases List.eq_nil_or_concat ws with rfl | ⟨v, w, rfl⟩
 ·exact absurd rfl h
 ·rw [List.concat_eq_append] at *
  obtain ⟨q, c, hq, hc⟩ := okW_last (hw w (by simp))
  exact ⟨tails v ++ 32 :: 32 :: q, c, by rw [tails_app]; simp [tails, hq], hc⟩
theorem join2_last {ws : List (List Int)} (hw : ∀ w ∈ ws, okW mkc w) (h : ws ≠ []) : ∃ q c, join2 ws = q ++ [c] ∧ sp c = false := by
 cases ws with
 | nil => exact absurd rfl h
 | cons w t =>
  by_cases ht : t = []
  ·subst ht
   obtain ⟨q, c, hq, hc⟩ := okW_last (hw w (by simp))
   exact ⟨q, c, by simp [join2, tails, hq], hc⟩
  ·obtain ⟨q, c, hq, hc⟩ := tails_last (fun x hx => hw x (by simp [hx])) ht
   exact ⟨w ++ q, c, by simp [join2, hq], hc⟩
theorem piece_parts (l : List Int) (a b : Bool) (ha : a = true → bareL mkc l = true) (hw : wds (tg mkc l) ≠ []) :
  wds (tg mkc (vEdge (join2 (wds (tg mkc l))) a b)) = wds (tg mkc l) ∧ atS sp (vEdge (join2 (wds (tg mkc l))) a b) 0 = a ∧ atS sp (vEdge (join2 (wds (tg mkc l))) a b) ((vEdge (join2 (wds (tg mkc l))) a b).length - 1) = b := by
 have hok := wds_ok mkc32 l
 have hlast : atS sp (vEdge (join2 (wds (tg mkc l))) a b) ((vEdge (join2 (wds (tg mkc l))) a b).length - 1) = b := by
  cases b with
  | true =>
   have e : vEdge (join2 (wds (tg mkc l))) a true = ((if a then [32] else []) ++ join2 (wds (tg mkc l))) ++ [32] := by simp [vEdge]
   rw [e, atS_last]; rfl
  | false =>
   obtain ⟨q, c, hq, hc⟩ := join2_last hok hw
   have e : vEdge (join2 (wds (tg mkc l))) a false = ((if a then [32] else []) ++ q) ++ [c] := by simp [vEdge, hq]
   rw [e, atS_last, hc]
 refine ⟨?_, ?_, hlast⟩
 ·cases a with
  | false =>
   have e : vEdge (join2 (wds (tg mkc l))) false b = join2 (wds (tg mkc l)) ++ (if b then [32] else []) := by simp [vEdge]
   rw [e, wds_again]
  | true =>
   have e : vEdge (join2 (wds (tg mkc l))) true b = 32 :: (join2 (wds (tg mkc l)) ++ (if b then [32] else [])) := by simp [vEdge]
   rw [e, tg32 _ (join_bare l (ha rfl) b), wds_sp, wds_again]
 ·cases a with
  | true =>
   have e : vEdge (join2 (wds (tg mkc l))) true b = 32 :: (join2 (wds (tg mkc l)) ++ (if b then [32] else [])) := by simp [vEdge]
   rw [e, atS_zero, join_bare l (ha rfl) b]; rfl
  | false =>
   have e : vEdge (join2 (wds (tg mkc l))) false b = join2 (wds (tg mkc l)) ++ (if b then [32] else []) := by simp [vEdge]
   rw [e]
   cases ew : wds (tg mkc l) with
   | nil => exact absurd ew hw
   | cons w ws =>
    have how := hok w (by rw [ew]; simp)
    cases w with
    | nil => exact absurd rfl how.1
    | cons c t =>
     have e2 : join2 ((c :: t) :: ws) ++ (if b then [32] else []) = c :: (t ++ (tails ws ++ (if b then [32] else []))) := by simp [join2]
     have hr : bareL mkc (tails ws ++ (if b then [32] else [])) = true := by
      cases ws with
      | nil => exact (wd_end b).1
      | cons x y => simp [tails, bareL, mkc32]
     rw [e2, atS_zero, bareL_app t _ hr]
     exact okW_first how
theorem piece_none (l : List Int) (a b : Bool) (hw : wds (tg mkc l) = []) : pieceB l a b = if a || b then [32] else [] := by unfold pieceB; rw [if_pos hw]
theorem piece_some (l : List Int) (a b : Bool) (hw : wds (tg mkc l) ≠ []) : pieceB l a b = vEdge (join2 (wds (tg mkc l))) a b := by unfold pieceB; rw [if_neg hw]
theorem wds_one : wds (tg mkc [32]) = [] := (wd_end true).2.2
theorem at_one0 : atS sp [32] 0 = true := by rw [atS_zero]; rfl
theorem at_none (i : Int) : atS sp [] i = false := by unfold atS; rw [if_neg (by simp <;> omega)]
theorem atS_bare {l : List Int} (h : atS sp l 0 = true) : bareL mkc l = true := by
 cases l with
 | nil => rfl
 | cons a t =>
  rw [atS_zero] at h
  simp only [Bool.and_eq_true, sp, decide_eq_true_eq] at h
  rw [h.1]
  exact bare32 t
theorem vPiece_twice (kind : Int) (l : List Int) : vPiece kind (vPiece kind l) = vPiece kind l := by
 by_cases hk : kind < 1 ∨ kind > 3
 ·unfold vPiece
  rw [if_pos hk, if_pos hk]
 by_cases k1 : kind = 1
 ·subst k1
  have e : ∀ m, vPiece 1 m = pieceB (vFirm m) true (atS sp (vFirm m) ((vFirm m).length - 1)) := by intro m; unfold vPiece; simp
  rw [e l]
  by_cases hw : wds (tg mkc (vFirm l)) = []
  ·rw [piece_none _ _ _ hw, e]
   simp only [Bool.true_or, if_true]
   rw [vFirm_id (bare32 []), piece_none _ _ _ wds_one]
   rfl
  ·obtain ⟨p1, p2, p3⟩ := piece_parts (vFirm l) true (atS sp (vFirm l) ((vFirm l).length - 1)) (fun _ => vFirm_bare l) hw
   rw [piece_some _ _ _ hw, e]
   have hf : vFirm (vEdge (join2 (wds (tg mkc (vFirm l)))) true (atS sp (vFirm l) ((vFirm l).length - 1))) = vEdge (join2 (wds (tg mkc (vFirm l)))) true (atS sp (vFirm l) ((vFirm l).length - 1)) := vFirm_id (atS_bare p2)
   rw [hf, p3, piece_some _ _ _ (by rw [p1]; exact hw), p1]
 ·have e : ∀ m, vPiece kind m = pieceB m (atS sp m 0) (decide (kind = 3) || atS sp m (m.length - 1)) := by
   intro m; unfold vPiece; rw [if_neg hk, if_neg k1]
  rw [e l]
  by_cases hw : wds (tg mkc l) = []
  ·rw [piece_none _ _ _ hw, e]
   by_cases h : (atS sp l 0 || (decide (kind = 3) || atS sp l (l.length - 1))) = true
   ·rw [if_pos h, piece_none _ _ _ wds_one, at_one0]
    rfl
   ·rw [if_neg h, piece_none _ _ _ rfl, at_none, at_none]
    simp only [Bool.or_eq_true, not_or] at h
    have h3 : decide (kind = 3) = false := by simpa using h.2.1
    rw [h3]
    rfl
  ·obtain ⟨p1, p2, p3⟩ := piece_parts l (atS sp l 0) (decide (kind = 3) || atS sp l (l.length - 1)) atS_bare hw
   rw [piece_some _ _ _ hw, e, p2, p3, piece_some _ _ _ (by rw [p1]; exact hw), p1]
   congr 1
   cases decide (kind = 3) <;> simp
theorem leftS_value (l : List Int) : leftS (S := sp) (mk := mkc) (vVal l) = leftS (S := sp) (mk := mkc) (vFirm l) := by
 rw [← wds_flat, ← wds_flat, wds_value]
theorem leftS_firm (l : List Int) : leftS (S := sp) (mk := mkc) (vFirm l) = if bareL mkc l = true then leftS (S := sp) (mk := mkc) l else 32 :: leftS (S := sp) (mk := mkc) l := by
 unfold vFirm
 by_cases h : bareL mkc l = true
 ·rw [if_pos h, if_pos h]
 ·rw [if_neg h, if_neg h, leftS_cons, if_neg (by simp [h])]
theorem vVal_more (pre t : List Int) (ht : bareL mkc t = true) : vVal (pre ++ 32 :: 32 :: t) = vVal (pre ++ 32 :: t) := by
 have key : ∀ q : List Int, wds (tg mkc (q ++ 32 :: 32 :: t)) = wds (tg mkc (q ++ 32 :: t)) := by
  intro q
  rw [show tg mkc (q ++ 32 :: 32 :: t) = tg mkc q ++ tg mkc (32 :: 32 :: t) from tgS_app q _ (bare32 _), show tg mkc (q ++ 32 :: t) = tg mkc q ++ tg mkc (32 :: t) from tgS_app q _ (bare32 _), tg32 _ (bare32 t), tg32 t ht]
  exact wds_double _ _ _ _
 have hb : bareL mkc (pre ++ 32 :: 32 :: t) = bareL mkc (pre ++ 32 :: t) := by rw [bareL_app _ _ (bare32 _), bareL_app _ _ (bare32 _)]
 unfold vVal vFirm
 rw [hb]
 by_cases h : bareL mkc (pre ++ 32 :: t) = true
 ·rw [if_pos h, if_pos h, key]
 ·rw [if_neg h, if_neg h]
  have := key (32 :: pre)
  simp only [List.cons_append] at this
  rw [this]
end Go.Proofs.Ytbffakgmlgimeaa.Pure
