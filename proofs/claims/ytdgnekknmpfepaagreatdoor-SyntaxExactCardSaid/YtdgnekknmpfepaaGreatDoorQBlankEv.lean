import Derived.Test.YtdgnekknmpfepaaGreatDoorQChars
import Derived.Test.YtdgnekknmpfepaaGreatDoorQBlank
import Derived.Test.YtdgnekknmpfepaaGreatDoorP4
import Derived.Test.YtdgnekknmpfepaaGreatDoorP5
/- blanks: what the functions come to. -/
namespace Go.Proofs.YtdgnekknmpfepaaGreatDoor.Pure
open Go.RowKit Go.Proofs.YtdgnekknmpfepaaGreatDoor.P Go.Proofs.YtdgnekknmpfepaaGreatDoorW.PrintWords Go.Proofs.YtdgnekknmpfepaaGreatDoorW.PrintLast
set_option linter.unusedVariables false
set_option linter.unusedSimpArgs false
def mkc (a : Int) : Bool := decide (cKind a = 3)
theorem mkc32 : mkc 32 = false := by decide +kernel
def hyp (a : Int) : Bool := decide (a = 45) || (decide (a = 8208) || decide (a = 8722))
theorem hyp_mk (a : Int) (h : mkc a = true) : (sp a || hyp a) = false := by
 have h32 : mkc 32 = false := mkc32
 have h45 : mkc 45 = false := by decide +kernel
 have h10 : mkc 8208 = false := by decide +kernel
 have h12 : mkc 8722 = false := by decide +kernel
 cases e : (sp a || hyp a) with
 | false => rfl
 | true =>
  simp only [sp, hyp, Bool.or_eq_true, decide_eq_true_eq] at e
  rcases e with rfl | rfl | rfl | rfl
  ·rw [h32] at h; cases h
  ·rw [h45] at h; cases h
  ·rw [h10] at h; cases h
  ·rw [h12] at h; cases h
theorem sp_mk (a : Int) (h : mkc a = true) : sp a = false := mk_sp_ne mkc32 h
theorem is3_ev (r : Int) : Ev (fun k => chars_Is.f k r [3]) (mkc r) := by
 refine ev_eq (is_ev r [3] (by simp)) ?_
 simp [mkc]
theorem bare_at (pre : List Int) (a : Int) (t : List Int) (hb : pre.length + t.length < 1000000) : Ev (fun k => blanks_bare.f k (pre ++ a :: t) (pre.length : Int)) (bareL mkc t) := by
 unfold blanks_bare.f
 rw [w64 (by omega) (by omega)]
 cases t with
 | nil => exact ev_pos (by simp) (ev_some rfl)
 | cons b t =>
  simp only [List.length_cons] at hb
  refine ev_neg (by simp; omega) (ev_pos (by omega) (ev_pos (by simp; omega) ?_))
  have e : rd (pre ++ a :: b :: t) ((pre.length : Int) + 1) = b := by
   have := rd_mid (pre ++ [a]) b t
   simpa using this
  rw [e]
  exact Ev.bind (is3_ev b) (Ev.now _)
theorem space_at (pre : List Int) (a : Int) (t : List Int) (hb : pre.length + t.length < 1000000) : Ev (fun k => blanks_Space.f k (pre ++ a :: t) (pre.length : Int)) (sp a && bareL mkc t) := by
 unfold blanks_Space.f
 refine ev_pos (by omega) (ev_pos (mid_lt pre a t) (ev_pos (by omega) ?_))
 rw [rd_mid]
 refine ev_ite (fun h => ?_) (fun h => ev_some (by simp [sp, h]))
 refine Ev.bind (bare_at pre a t hb) (ev_some ?_)
 simp [sp, h]
def atS (S : Int → Bool) (l : List Int) (i : Int) : Bool := if 0 ≤ i ∧ i < (l.length : Int) then S (l.getD i.toNat 0) && bareL mkc (l.drop (i.toNat + 1)) else false
theorem split_at (l : List Int) (i : Int) (h0 : 0 ≤ i) (h1 : i < (l.length : Int)) : ∃ pre, l = pre ++ l.getD i.toNat 0 :: l.drop (i.toNat + 1) ∧ (pre.length : Int) = i := by
 have hl : i.toNat < l.length := by omega
 refine ⟨l.take i.toNat, ?_, by simp; omega⟩
 have e : l.getD i.toNat 0 = l[i.toNat] := by simp [List.getD_eq_getElem?_getD, List.getElem?_eq_getElem hl]
 rw [e, ← List.drop_eq_getElem_cons hl, List.take_append_drop]
theorem space_ev (l : List Int) (i : Int) (hb : l.length < 900000) : Ev (fun k => blanks_Space.f k l i) (atS sp l i) := by
 by_cases h : 0 ≤ i ∧ i < (l.length : Int)
 ·obtain ⟨pre, e, hp⟩ := split_at l i h.1 h.2
  have hl := congrArg List.length e
  simp only [List.length_append, List.length_cons] at hl
  have := space_at pre (l.getD i.toNat 0) (l.drop (i.toNat + 1)) (by omega)
  rw [← e, hp] at this
  unfold atS
  rw [if_pos h]
  exact this
 ·unfold atS blanks_Space.f
  rw [if_neg h]
  refine ev_ite (fun h0 => ?_) (fun _ => ev_some rfl)
  exact ev_neg (fun h1 => h ⟨h0, h1⟩) (ev_some rfl)
def vFirm (l : List Int) : List Int := if bareL mkc l = true then l else 32 :: l
theorem vFirm_bare (l : List Int) : bareL mkc (vFirm l) = true := by
 unfold vFirm
 split
 ·assumption
 ·simp [bareL, mkc32]
theorem vFirm_length (l : List Int) : (vFirm l).length ≤ l.length + 1 := by
 unfold vFirm
 split <;> simp
def vEdge (l : List Int) (a b : Bool) : List Int := (if a then [32] else []) ++ l ++ (if b then [32] else [])
theorem edged_eq (l : List Int) (a b : Bool) (hb : l.length < 1000000) : blanks_edged.f l a b = some (vEdge l a b) := by
 unfold blanks_edged.f vEdge
 cases a <;> cases b <;> simp <;> omega
theorem firm_ev (l : List Int) (hb : l.length < 900000) : Ev (fun k => blanks_firm.f k l) (vFirm l) := by
 unfold blanks_firm.f vFirm
 cases l with
 | nil => exact ev_neg (by simp) (ev_some rfl)
 | cons a t =>
  refine ev_pos (by simp <;> omega) (ev_pos (by simp <;> omega) ?_)
  have e : rd (a :: t) 0 = a := by
   have := rd_mid [] a t
   simpa using this
  rw [e]
  refine Ev.bind (is3_ev a) ?_
  refine ev_ite (fun h => ?_) (fun h => ?_)
  ·rw [if_neg (by simp [bareL, h])]
   refine ev_bind0 (edged_eq (a :: t) true false (by omega)) (ev_some ?_)
   simp [vEdge]
  ·rw [if_pos (by simp [bareL, h])]
   exact Ev.now _
theorem words_loop : ∀ (n : Nat) (suf pre : List Int), suf.length = n → pre.length + suf.length < 900000 →
  (∀ out : List (List Int), out.length ≤ pre.length → Ev (fun k => blanks_words.l1 k (pre ++ suf) out (pre.length : Int)) (out ++ wds (tg mkc suf))) ∧
  (∀ (out : List (List Int)) (p w : List Int), pre = p ++ w → out.length ≤ p.length → Ev (fun k => blanks_words.l2 k (pre ++ suf) out (pre.length : Int) (p.length : Int)) (out ++ (w ++ (wd (tg mkc suf)).1) :: (wd (tg mkc suf)).2)) := by
 intro n
 induction n with
 | zero =>
  intro suf pre hn hb
  obtain rfl := List.eq_nil_of_length_eq_zero hn
  have a1 : ∀ out : List (List Int), Ev (fun k => blanks_words.l1 k (pre ++ []) out (pre.length : Int)) (out ++ wds (tg mkc [])) := by
   intro out
   refine Ev.step (fun k => by simp only [blanks_words.l1]; rfl) ?_
   refine Ev.bind (space_ev (pre ++ []) (pre.length : Int) (by simpa using hb)) ?_
   have : atS sp (pre ++ []) (pre.length : Int) = false := by
    unfold atS
    rw [if_neg (by simp)]
   rw [this]
   exact ev_neg (by simp) (ev_pos (by simp) (ev_some (by simp [tgS, wds, wd])))
  refine ⟨fun out _ => a1 out, fun out p w hp ho => ?_⟩
  refine Ev.step (fun k => by simp only [blanks_words.l2]; rfl) ?_
  have hl := congrArg List.length hp
  simp only [List.length_append] at hl
  refine ev_neg (by simp) (ev_pos (by omega) (ev_pos (by omega) (ev_pos (by simp) (ev_pos (by omega) ?_))))
  have e : ((pre ++ []).take ((pre.length : Int)).toNat).drop ((p.length : Int)).toNat = w := by
   have e1 : ((pre.length : Int)).toNat = (p ++ w).length := by rw [← hp]; exact Int.toNat_natCast _
   rw [e1, Int.toNat_natCast, List.append_nil, hp, List.take_length, List.drop_left]
  rw [e]
  refine Ev.step (fun k => by simp only [blanks_words.l0]; rfl) ?_
  refine ev_eq (a1 _) ?_
  simp [tgS, wds, wd]
 | succ n ih =>
  intro suf pre hn hb
  cases suf with
  | nil => simp at hn
  | cons a t =>
   simp only [List.length_cons, Nat.add_right_cancel_iff] at hn
   simp only [List.length_cons] at hb
   obtain ⟨ih1, ih2⟩ := ih t (pre ++ [a]) hn (by simp; omega)
   have hlt := mid_lt pre a t
   have hw : wrap64 ((pre.length : Int) + 1) = ((pre ++ [a]).length : Int) := by
    rw [w64 (by omega) (by omega), len_snoc]
   have esp : (sp a && bareL mkc t) = true → wds (tg mkc (a :: t)) = wds (tg mkc t) ∧ wd (tg mkc (a :: t)) = ([], wds (tg mkc t)) := by
    intro h
    have e : tg mkc (a :: t) = (a, true) :: tg mkc t := by rw [← h]; rfl
    rw [e]
    exact ⟨wds_sp _ _, wd_sp _ _⟩
   have eno : (sp a && bareL mkc t) = false → wds (tg mkc (a :: t)) = (a :: (wd (tg mkc t)).1) :: (wd (tg mkc t)).2 ∧ wd (tg mkc (a :: t)) = (a :: (wd (tg mkc t)).1, (wd (tg mkc t)).2) := by
    intro h
    have e : tg mkc (a :: t) = (a, false) :: tg mkc t := by rw [← h]; rfl
    rw [e]
    exact ⟨wds_no _ _, wd_no _ _⟩
   have l2no : (sp a && bareL mkc t) = false → ∀ (out : List (List Int)) (p w : List Int), pre = p ++ w → out.length ≤ p.length → Ev (fun k => blanks_words.l2 k (pre ++ a :: t) out (pre.length : Int) (p.length : Int)) (out ++ (w ++ (wd (tg mkc (a :: t))).1) :: (wd (tg mkc (a :: t))).2) := by
    intro h out p w hp ho
    refine Ev.step (fun k => by simp only [blanks_words.l2]; rfl) ?_
    refine ev_pos hlt ?_
    refine Ev.bind (space_at pre a t (by omega)) (ev_neg (by simp [h]) ?_)
    rw [hw, mid_snoc pre]
    refine ev_eq (ih2 out p (w ++ [a]) (by rw [hp]; simp) ho) ?_
    rw [(eno h).2]
    simp
   have l1sp : (sp a && bareL mkc t) = true → ∀ out : List (List Int), out.length ≤ pre.length + 1 → Ev (fun k => blanks_words.l1 k (pre ++ a :: t) out (pre.length : Int)) (out ++ wds (tg mkc t)) := by
    intro h out ho
    refine Ev.step (fun k => by simp only [blanks_words.l1]; rfl) ?_
    refine Ev.bind (space_at pre a t (by omega)) (ev_pos h ?_)
    rw [hw, mid_snoc pre]
    exact ih1 out (by simp; omega)
   refine ⟨fun out ho => ?_, fun out p w hp ho => ?_⟩
   ·cases h : (sp a && bareL mkc t) with
    | true =>
     rw [(esp h).1]
     exact l1sp h out (by omega)
    | false =>
     refine Ev.step (fun k => by simp only [blanks_words.l1]; rfl) ?_
     refine Ev.bind (space_at pre a t (by omega)) (ev_neg (by simp [h]) (ev_neg (by simp; omega) ?_))
     refine ev_eq (l2no h out pre [] (by simp) (by omega)) ?_
     rw [(eno h).1, (eno h).2]
     simp
   ·cases h : (sp a && bareL mkc t) with
    | false => exact l2no h out p w hp ho
    | true =>
     have hl := congrArg List.length hp
     simp only [List.length_append] at hl
     refine Ev.step (fun k => by simp only [blanks_words.l2]; rfl) ?_
     refine ev_pos hlt ?_
     refine Ev.bind (space_at pre a t (by omega)) (ev_pos h ?_)
     refine ev_pos (by omega) (ev_pos (by omega) (ev_pos (by omega) (ev_pos (by omega) ?_)))
     have e : ((pre ++ a :: t).take ((pre.length : Int)).toNat).drop ((p.length : Int)).toNat = w := by
      rw [Int.toNat_natCast, Int.toNat_natCast, List.take_left', hp, List.drop_left]
      rfl
     rw [e]
     refine Ev.step (fun k => by simp only [blanks_words.l0]; rfl) ?_
     refine ev_eq (l1sp h (out ++ [w]) (by simp; omega)) ?_
     rw [(esp h).2]
     simp
theorem words_ev (l : List Int) (hb : l.length < 900000) : Ev (fun k => blanks_words.f k l) (wds (tg mkc l)) := by
 unfold blanks_words.f
 have := (words_loop _ l [] rfl (by simpa using hb)).1 [] (by simp)
 refine Ev.step (fun k => by simp only [blanks_words.l0]; rfl) ?_
 simpa using this
theorem rdL_mid (pre : List (List Int)) (a : List Int) (suf : List (List Int)) : rd_L4 (pre ++ a :: suf) (pre.length : Int) = a := by
 simp [rd_L4, List.getD_eq_getElem?_getD]
theorem joined_loop (acc : List Int) (pre suf : List (List Int)) (hp : pre ≠ []) (hb : pre.length + suf.length < 900000) (ha : acc.length + (tails suf).length < 9000000) (n : Int) (hn : n = ((pre ++ suf).length : Int)) :
  Ev (fun k => blanks_joined.l0 k acc (pre ++ suf) n (pre.length : Int)) (acc ++ tails suf) := by
 induction suf generalizing pre acc with
 | nil =>
  refine Ev.step (fun k => by simp only [blanks_joined.l0]; rfl) ?_
  exact ev_neg (by subst hn; simp) (ev_some (by simp [tails]))
 | cons w t ih =>
  have hl : 0 < pre.length := by
   cases pre with
   | nil => exact absurd rfl hp
   | cons x y => simp
  have et : tails (w :: t) = 32 :: 32 :: (w ++ tails t) := by simp [tails]
  rw [et] at ha ⊢
  simp only [List.length_cons, List.length_append] at ha hb
  refine Ev.step (fun k => by simp only [blanks_joined.l0]; rfl) ?_
  refine ev_pos (by rw [hn]; simp; omega) (ev_pos (by omega) (ev_pos (by simp; omega) (ev_pos (by omega) ?_)))
  refine ev_bind0 rfl (ev_pos (by simp; omega) (ev_bind0 rfl ?_))
  rw [rdL_mid, w64 (by omega) (by omega)]
  refine ev_pos (by simp; omega) ?_
  have := ih (acc ++ [32, 32] ++ w) (pre ++ [w]) (by simp) (by simp; omega) (by simp; omega) (by rw [hn]; simp)
  simpa using this
theorem joined_ev (ws : List (List Int)) (hb : ws.length < 900000) (ha : (join2 ws).length < 9000000) : Ev (fun k => blanks_joined.f k ws) (join2 ws) := by
 unfold blanks_joined.f
 cases ws with
 | nil =>
  refine Ev.step (fun k => by simp only [blanks_joined.l0]; rfl) ?_
  exact ev_neg (by simp) (ev_some rfl)
 | cons w t =>
  simp only [join2, List.length_append, List.length_cons] at ha hb
  refine Ev.step (fun k => by simp only [blanks_joined.l0]; rfl) ?_
  refine ev_pos (by simp <;> omega) (ev_pos (by omega) (ev_pos (by simp <;> omega) (ev_neg (by omega) ?_)))
  have e : rd_L4 (w :: t) 0 = w := rdL_mid [] w t
  rw [e, w64 (by omega) (by omega)]
  refine ev_pos (by simp; omega) ?_
  have := joined_loop w [w] t (by simp) (by simp; omega) (by omega) _ rfl
  simpa [join2] using this
theorem wd_size (T : List (Int × Bool)) : (wd T).1.length + (tails (wd T).2).length ≤ 3 * T.length ∧ (wd T).2.length ≤ T.length := by
 induction T with
 | nil => simp [wd, tails]
 | cons x T ih =>
  obtain ⟨a, s⟩ := x
  cases s with
  | false =>
   rw [wd_no]
   simp only [List.length_cons]
   omega
  | true =>
   rw [wd_sp]
   unfold wds
   by_cases h : (wd T).1 = []
   ·rw [if_pos h]
    simp only [List.length_cons, List.length_nil]
    omega
   ·rw [if_neg h]
    have h1 : 0 < (wd T).1.length := List.length_pos_iff.2 h
    have e : (tails ((wd T).1 :: (wd T).2)).length = 2 + (wd T).1.length + (tails (wd T).2).length := by simp [tails]; omega
    simp only [List.length_cons, List.length_nil] at e ⊢
    rw [e]
    constructor
    ·omega
    ·have : (wd T).2.length + 1 ≤ T.length := by
      cases T with
      | nil => exact absurd rfl h
      | cons y T =>
       obtain ⟨b, s⟩ := y
       cases s with
       | true => exact absurd rfl h
       | false =>
        rw [wd_no]
        have h2 : ∀ T : List (Int × Bool), (wd T).2.length ≤ T.length := by
         intro T
         induction T with
         | nil => simp [wd]
         | cons y T ih =>
          obtain ⟨b, s⟩ := y
          cases s with
          | false => rw [wd_no]; simp only [List.length_cons]; omega
          | true =>
           rw [wd_sp]
           unfold wds
           split
           ·simp only [List.length_cons]; omega
           ·rename_i h3
            simp only [List.length_cons]
            omega
        have := h2 T
        simp only [List.length_cons]
        omega
     omega
theorem join2_size (l : List Int) : (join2 (wds (tg mkc l))).length ≤ 3 * l.length ∧ (wds (tg mkc l)).length ≤ l.length + 1 := by
 have h := wd_size (tg mkc l)
 rw [tgS_length] at h
 unfold wds
 by_cases g : (wd (tg mkc l)).1 = []
 ·rw [if_pos g]
  refine ⟨?_, by omega⟩
  cases e : (wd (tg mkc l)).2 with
  | nil => simp [join2]
  | cons w ws =>
   rw [e] at h
   simp only [tails, join2, List.flatMap_cons, List.length_append, List.length_cons] at h ⊢
   omega
 ·rw [if_neg g]
  simp only [join2, List.length_append, List.length_cons]
  omega
def vVal (l : List Int) : List Int := 32 :: (join2 (wds (tg mkc (vFirm l))) ++ [32])
theorem vVal_length (l : List Int) : (vVal l).length ≤ 3 * l.length + 5 := by
 have h1 := vFirm_length l
 have h2 := (join2_size (vFirm l)).1
 simp only [vVal, List.length_cons, List.length_append, List.length_nil]
 omega
theorem value_ev (l : List Int) (hb : l.length < 100000) : Ev (fun k => blanks_Value.f k l) (vVal l) := by
 unfold blanks_Value.f
 have h1 := vFirm_length l
 have h2 := join2_size (vFirm l)
 refine Ev.bind (firm_ev l (by omega)) (Ev.bind (words_ev _ (by omega)) (Ev.bind (joined_ev _ (by omega) (by omega)) ?_))
 refine ev_bind0 (edged_eq _ true true (by omega)) (ev_some ?_)
 simp [vEdge, vVal]
def pieceB (l : List Int) (a b : Bool) : List Int := if wds (tg mkc l) = [] then (if a || b then [32] else []) else vEdge (join2 (wds (tg mkc l))) a b
def vPiece (kind : Int) (l : List Int) : List Int := if kind < 1 ∨ kind > 3 then [] else if kind = 1 then pieceB (vFirm l) true (atS sp (vFirm l) ((vFirm l).length - 1)) else pieceB l (atS sp l 0) (decide (kind = 3) || atS sp l (l.length - 1))
end Go.Proofs.YtdgnekknmpfepaaGreatDoor.Pure
