import Derived.Test.YtdgnekknmpfepaaGreatDoorQBase
/- Spaces and words, as plain lists ('mk': is a character a mark?). -/
namespace Go.Proofs.YtdgnekknmpfepaaGreatDoor.Pure
set_option linter.unusedVariables false
set_option linter.unusedSimpArgs false
section
variable (S : Int → Bool) (mk : Int → Bool)
def bareL : List Int → Bool
 | [] => true
 | b :: _ => !mk b
def tgS : List Int → List (Int × Bool)
 | [] => []
 | a :: t => (a, S a && bareL mk t) :: tgS t
variable {S mk}
theorem tgS_cons (a : Int) (t : List Int) : tgS S mk (a :: t) = (a, S a && bareL mk t) :: tgS S mk t := rfl
theorem tgS_length (l : List Int) : (tgS S mk l).length = l.length := by
 induction l with
 | nil => rfl
 | cons a t ih => simp [tgS_cons, ih]
theorem tgS_fst (l : List Int) : (tgS S mk l).map (·.1) = l := by
 induction l with
 | nil => rfl
 | cons a t ih => simp [tgS_cons, ih]
theorem bareL_app (w r : List Int) (hr : bareL mk r = true) : bareL mk (w ++ r) = bareL mk w := by
 cases w with
 | nil => simpa [bareL] using hr
 | cons a t => rfl
theorem tgS_app (w r : List Int) (hr : bareL mk r = true) : tgS S mk (w ++ r) = tgS S mk w ++ tgS S mk r := by
 induction w with
 | nil => rfl
 | cons a t ih => rw [List.cons_append, tgS_cons, tgS_cons, ih, bareL_app t r hr]; rfl
def leftS (l : List Int) : List Int := ((tgS S mk l).filter (fun x => !x.2)).map (·.1)
theorem leftS_cons (a : Int) (t : List Int) : leftS (S := S) (mk := mk) (a :: t) = if (S a && bareL mk t) = true then leftS (S := S) (mk := mk) t else a :: leftS (S := S) (mk := mk) t := by
 unfold leftS
 rw [tgS_cons, List.filter_cons]
 by_cases h : (S a && bareL mk t) = true
 ·simp [h]
 ·have h' : (S a && bareL mk t) = false := by simpa using h
  simp [h']
theorem leftS_head (hS : ∀ a, mk a = true → S a = false) (t : List Int) (h : bareL mk t = false) : bareL mk (leftS (S := S) (mk := mk) t) = false := by
 cases t with
 | nil => simp [bareL] at h
 | cons b t =>
  simp only [bareL, Bool.not_eq_false'] at h
  rw [leftS_cons, hS b h]
  simp [bareL, h]
theorem leftS_twice (hS : ∀ a, mk a = true → S a = false) (l : List Int) : leftS (S := S) (mk := mk) (leftS (S := S) (mk := mk) l) = leftS (S := S) (mk := mk) l := by
 induction l with
 | nil => rfl
 | cons a t ih =>
  rw [leftS_cons]
  by_cases h : (S a && bareL mk t) = true
  ·rw [if_pos h, ih]
  ·rw [if_neg h, leftS_cons, ih]
   have : ¬ (S a && bareL mk (leftS (S := S) (mk := mk) t)) = true := by
    cases ha : S a
    ·simp
    ·have hb : bareL mk t = false := by simpa [ha] using h
     simp [leftS_head hS t hb]
   rw [if_neg this]
end
section
variable (mk : Int → Bool)
def sp (a : Int) : Bool := decide (a = 32)
abbrev tg (l : List Int) : List (Int × Bool) := tgS sp mk l
def wd : List (Int × Bool) → List Int × List (List Int)
 | [] => ([], [])
 | (_, true) :: t => ([], if (wd t).1 = [] then (wd t).2 else (wd t).1 :: (wd t).2)
 | (a, false) :: t => (a :: (wd t).1, (wd t).2)
def wds (T : List (Int × Bool)) : List (List Int) := if (wd T).1 = [] then (wd T).2 else (wd T).1 :: (wd T).2
def tails (ws : List (List Int)) : List Int := ws.flatMap (fun w => 32 :: 32 :: w)
def join2 : List (List Int) → List Int
 | [] => []
 | w :: ws => w ++ tails ws
variable {mk}
theorem wd_sp (a : Int) (T : List (Int × Bool)) : wd ((a, true) :: T) = ([], wds T) := rfl
theorem wd_no (a : Int) (T : List (Int × Bool)) : wd ((a, false) :: T) = (a :: (wd T).1, (wd T).2) := rfl
theorem wds_sp (a : Int) (T : List (Int × Bool)) : wds ((a, true) :: T) = wds T := by
 unfold wds
 rw [wd_sp]
 simp [wds]
theorem wds_no (a : Int) (T : List (Int × Bool)) : wds ((a, false) :: T) = (a :: (wd T).1) :: (wd T).2 := by
 unfold wds
 rw [wd_no]
 simp
def fl (w : List Int) : List (Int × Bool) := w.map (fun a => (a, false))
theorem wd_fl (w : List Int) (T : List (Int × Bool)) : wd (fl w ++ T) = (w ++ (wd T).1, (wd T).2) := by
 induction w with
 | nil => rfl
 | cons a t ih =>
  show wd ((a, false) :: (fl t ++ T)) = _
  rw [wd_no, ih]; rfl
theorem wds_fl_sp (w : List Int) (hw : w ≠ []) (a : Int) (T : List (Int × Bool)) : wds (fl w ++ (a, true) :: T) = w :: wds T := by
 unfold wds
 rw [wd_fl, wd_sp]
 simp [hw, wds]
theorem wds_fl (w : List Int) (hw : w ≠ []) : wds (fl w) = [w] := by
 have : wds (fl w ++ []) = [w] := by
  unfold wds
  rw [wd_fl]
  simp [hw, wd]
 simpa using this
theorem wd_app_sp (X : List (Int × Bool)) (a : Int) (T : List (Int × Bool)) : wd (X ++ (a, true) :: T) = ((wd X).1, (wd X).2 ++ wds T) := by
 induction X with
 | nil => rfl
 | cons x X ih =>
  obtain ⟨b, s⟩ := x
  cases s with
  | true =>
   show wd ((b, true) :: (X ++ (a, true) :: T)) = _
   rw [wd_sp, wd_sp]
   unfold wds
   rw [ih]
   by_cases h : (wd X).1 = []
   ·simp [h, wds]
   ·simp [h, wds]
  | false =>
   show wd ((b, false) :: (X ++ (a, true) :: T)) = _
   rw [wd_no, wd_no, ih]
theorem wds_app_sp (X : List (Int × Bool)) (a : Int) (T : List (Int × Bool)) : wds (X ++ (a, true) :: T) = wds X ++ wds T := by
 conv => lhs; unfold wds
 rw [wd_app_sp]
 conv => rhs; lhs; unfold wds
 by_cases h : (wd X).1 = []
 ·simp [h]
 ·simp [h]
theorem wds_double (X : List (Int × Bool)) (a b : Int) (T : List (Int × Bool)) : wds (X ++ (a, true) :: (b, true) :: T) = wds (X ++ (a, true) :: T) := by
 rw [wds_app_sp, wds_app_sp, wds_sp]
def okW (mk : Int → Bool) (w : List Int) : Prop := w ≠ [] ∧ tg mk w = fl w
structure WdInv (mk : Int → Bool) (l : List Int) : Prop where
 words : ∀ w ∈ (wd (tg mk l)).2, okW mk w ∧ bareL mk w = true
 first : (wd (tg mk l)).1 ≠ [] → okW mk (wd (tg mk l)).1
 head : ∀ a t, l = a :: t → (sp a && bareL mk t) = false → ∃ w', (wd (tg mk l)).1 = a :: w'
 none : ∀ a t, l = a :: t → (sp a && bareL mk t) = true → (wd (tg mk l)).1 = []
theorem mk_sp_ne {a : Int} (h32 : mk 32 = false) (h : mk a = true) : sp a = false := by
 unfold sp
 rw [decide_eq_false_iff_not]
 rintro rfl
 rw [h32] at h
 cases h
theorem wd_inv (h32 : mk 32 = false) (l : List Int) : WdInv mk l := by
 induction l with
 | nil => exact ⟨by simp [tgS, wd], by simp [tgS, wd], fun a t h => (by cases h), fun a t h => (by cases h)⟩
 | cons a t ih =>
  have e : tg mk (a :: t) = (a, sp a && bareL mk t) :: tg mk t := rfl
  have hb : (wd (tg mk t)).1 ≠ [] → bareL mk t = bareL mk (wd (tg mk t)).1 := by
   intro hne
   cases t with
   | nil => exact absurd rfl hne
   | cons b t =>
    cases hs : (sp b && bareL mk t) with
    | true => exact absurd (ih.none b t rfl hs) hne
    | false =>
     obtain ⟨w', hw⟩ := ih.head b t rfl hs
     rw [hw]; rfl
  cases hs : (sp a && bareL mk t) with
  | true =>
   rw [hs] at e
   have hbt : bareL mk t = true := by
    simp only [Bool.and_eq_true] at hs; exact hs.2
   refine ⟨?_, ?_, ?_, ?_⟩
   ·intro w hw
    rw [e, wd_sp] at hw
    unfold wds at hw
    by_cases h : (wd (tg mk t)).1 = []
    ·rw [if_pos h] at hw
     exact ih.words w hw
    ·rw [if_neg h] at hw
     rcases List.mem_cons.1 hw with rfl | hw
     ·exact ⟨ih.first h, by rw [← hb h]; exact hbt⟩
     ·exact ih.words w hw
   ·intro h
    rw [e, wd_sp] at h
    exact absurd rfl h
   ·intro a' t' h1 h2
    cases h1
    rw [hs] at h2
    cases h2
   ·intro a' t' h1 h2
    rw [e, wd_sp]
  | false =>
   rw [hs] at e
   refine ⟨?_, ?_, ?_, ?_⟩
   ·intro w hw
    rw [e, wd_no] at hw
    exact ih.words w hw
   ·intro _
    rw [e, wd_no]
    refine ⟨by simp, ?_⟩
    show tg mk (a :: (wd (tg mk t)).1) = fl (a :: (wd (tg mk t)).1)
    have e2 : tg mk (a :: (wd (tg mk t)).1) = (a, sp a && bareL mk (wd (tg mk t)).1) :: tg mk (wd (tg mk t)).1 := rfl
    have e3 : (sp a && bareL mk (wd (tg mk t)).1) = false := by
     cases ha : sp a
     ·rfl
     ·have hbt : bareL mk t = false := by simpa [ha] using hs
      cases t with
      | nil => simp [bareL] at hbt
      | cons b t =>
       simp only [bareL, Bool.not_eq_false'] at hbt
       have hsb : (sp b && bareL mk t) = false := by rw [mk_sp_ne h32 hbt]; rfl
       obtain ⟨w', hw⟩ := ih.head b t rfl hsb
       rw [hw]
       simp [bareL, hbt]
    rw [e2, e3]
    by_cases h : (wd (tg mk t)).1 = []
    ·rw [h]; rfl
    ·rw [(ih.first h).2]; rfl
   ·intro a' t' h1 h2
    cases h1
    exact ⟨(wd (tg mk t)).1, by rw [e, wd_no]⟩
   ·intro a' t' h1 h2
    cases h1
    rw [hs] at h2
    cases h2
theorem wds_ok (h32 : mk 32 = false) (l : List Int) : ∀ w ∈ wds (tg mk l), okW mk w := by
 have hi := wd_inv h32 l
 intro w hw
 unfold wds at hw
 by_cases h : (wd (tg mk l)).1 = []
 ·rw [if_pos h] at hw
  exact (hi.words w hw).1
 ·rw [if_neg h] at hw
  rcases List.mem_cons.1 hw with rfl | hw
  ·exact hi.first h
  ·exact (hi.words w hw).1
theorem wds_bare (h32 : mk 32 = false) (l : List Int) (hl : bareL mk l = true) : ∀ w ∈ wds (tg mk l), bareL mk w = true := by
 have hi := wd_inv h32 l
 intro w hw
 unfold wds at hw
 by_cases h : (wd (tg mk l)).1 = []
 ·rw [if_pos h] at hw
  exact (hi.words w hw).2
 ·rw [if_neg h] at hw
  rcases List.mem_cons.1 hw with rfl | hw
  ·cases l with
   | nil => exact absurd rfl h
   | cons a t =>
    cases hs : (sp a && bareL mk t) with
    | true => exact absurd (hi.none a t rfl hs) h
    | false =>
     obtain ⟨w', hw⟩ := hi.head a t rfl hs
     rw [hw]
     exact hl
  ·exact (hi.words w hw).2
theorem wds_tail_bare (h32 : mk 32 = false) (l : List Int) (w : List Int) (ws : List (List Int)) (h : wds (tg mk l) = w :: ws) : ∀ u ∈ ws, bareL mk u = true := by
 have hi := wd_inv h32 l
 intro u hu
 unfold wds at h
 by_cases g : (wd (tg mk l)).1 = []
 ·rw [if_pos g] at h
  exact (hi.words u (by rw [h]; simp [hu])).2
 ·rw [if_neg g] at h
  injection h with h1 h2
  exact (hi.words u (by rw [h2]; exact hu)).2
theorem tg_tails (h32 : mk 32 = false) (ws : List (List Int)) (hw : ∀ w ∈ ws, okW mk w ∧ bareL mk w = true) (r : List Int) (hr : bareL mk r = true) :
  wds (tg mk (tails ws ++ r)) = ws ++ wds (tg mk r) ∨ (wd (tg mk r)).1 ≠ [] := by
 by_cases hr0 : (wd (tg mk r)).1 = []
 ·left
  induction ws with
  | nil => rfl
  | cons w ws ih =>
   obtain ⟨⟨h1, h2⟩, h3⟩ := hw w (by simp)
   have ih := ih (fun x hx => hw x (by simp [hx]))
   have hbare : bareL mk (tails ws ++ r) = true := by
    cases ws with
    | nil => exact hr
    | cons x xs => simp [tails, bareL, h32]
   have hb2 : bareL mk (w ++ (tails ws ++ r)) = true := by rw [bareL_app _ _ hbare]; exact h3
   have e : tails (w :: ws) ++ r = 32 :: 32 :: (w ++ (tails ws ++ r)) := by simp [tails]
   have e2 : tg mk (32 :: 32 :: (w ++ (tails ws ++ r))) = (32, true) :: (32, true) :: tg mk (w ++ (tails ws ++ r)) := by
    rw [show tg mk (32 :: 32 :: (w ++ (tails ws ++ r))) = (32, sp 32 && bareL mk (32 :: (w ++ (tails ws ++ r)))) :: (32, sp 32 && bareL mk (w ++ (tails ws ++ r))) :: tg mk (w ++ (tails ws ++ r)) from rfl, hb2]
    simp [sp, bareL, h32]
   rw [e, e2, wds_sp, wds_sp, show tg mk (w ++ (tails ws ++ r)) = tg mk w ++ tg mk (tails ws ++ r) from tgS_app w _ hbare, h2]
   have h4 : (wd (tg mk (tails ws ++ r))).1 = [] := by
    cases ws with
    | nil => exact hr0
    | cons x xs =>
     have : tg mk (tails (x :: xs) ++ r) = (32, true) :: tg mk (32 :: (x ++ tails xs ++ r)) := by
      rw [show tails (x :: xs) ++ r = 32 :: 32 :: (x ++ tails xs ++ r) from by simp [tails]]
      rw [show tg mk (32 :: 32 :: (x ++ tails xs ++ r)) = (32, sp 32 && bareL mk (32 :: (x ++ tails xs ++ r))) :: tg mk (32 :: (x ++ tails xs ++ r)) from rfl]
      simp [sp, bareL, h32]
     rw [this, wd_sp]
   unfold wds
   rw [wd_fl, h4]
   unfold wds at ih
   rw [if_pos h4] at ih
   simp only [List.append_nil, if_neg h1, ih]
   rfl
 ·exact .inr hr0
theorem wds_join (h32 : mk 32 = false) (ws : List (List Int)) (hw : ∀ w ∈ ws, okW mk w) (hb : ∀ w x, ws = w :: x → ∀ u ∈ x, bareL mk u = true) (r : List Int) (hr : bareL mk r = true) (hr0 : (wd (tg mk r)).1 = []) :
  wds (tg mk (join2 ws ++ r)) = ws ++ wds (tg mk r) := by
 cases ws with
 | nil => rfl
 | cons w ws =>
  have hb := hb w ws rfl
  obtain ⟨h1, h2⟩ := hw w (by simp)
  have ht : wds (tg mk (tails ws ++ r)) = ws ++ wds (tg mk r) := (tg_tails h32 ws (fun x hx => ⟨hw x (by simp [hx]), hb x hx⟩) r hr).elim id (fun h => absurd hr0 h)
  have hbare : bareL mk (tails ws ++ r) = true := by
   cases ws with
   | nil => exact hr
   | cons x xs => simp [tails, bareL, h32]
  have h4 : (wd (tg mk (tails ws ++ r))).1 = [] := by
   cases ws with
   | nil => exact hr0
   | cons x xs =>
    have : tg mk (tails (x :: xs) ++ r) = (32, true) :: tg mk (32 :: (x ++ tails xs ++ r)) := by
     rw [show tails (x :: xs) ++ r = 32 :: 32 :: (x ++ tails xs ++ r) from by simp [tails]]
     rw [show tg mk (32 :: 32 :: (x ++ tails xs ++ r)) = (32, sp 32 && bareL mk (32 :: (x ++ tails xs ++ r))) :: tg mk (32 :: (x ++ tails xs ++ r)) from rfl]
     simp [sp, bareL, h32]
    rw [this, wd_sp]
  rw [show join2 (w :: ws) ++ r = w ++ (tails ws ++ r) from by simp [join2], show tg mk (w ++ (tails ws ++ r)) = tg mk w ++ tg mk (tails ws ++ r) from tgS_app w _ hbare, h2]
  unfold wds at ht ⊢
  rw [if_pos h4] at ht
  rw [wd_fl, h4]
  simp only [List.append_nil, if_neg h1, ht]
  rfl
theorem tails_app (a b : List (List Int)) : tails (a ++ b) = tails a ++ tails b := by simp [tails]
theorem join2_app (a b : List (List Int)) (ha : a ≠ []) : join2 (a ++ b) = join2 a ++ tails b := by
 cases a with
 | nil => exact absurd rfl ha
 | cons w ws => simp [join2, tails_app]
theorem tails_join (b : List (List Int)) (hb : b ≠ []) : tails b = 32 :: 32 :: join2 b := by
 cases b with
 | nil => exact absurd rfl hb
 | cons w ws => simp [join2, tails]
theorem wd_flat (T : List (Int × Bool)) : (wd T).1 ++ (wd T).2.flatten = (T.filter (fun x => !x.2)).map (·.1) := by
 induction T with
 | nil => rfl
 | cons x T ih =>
  obtain ⟨a, s⟩ := x
  cases s with
  | true =>
   have e : ((((a, true) :: T).filter (fun x => !x.2)).map (·.1)) = (T.filter (fun x => !x.2)).map (·.1) := by simp
   rw [e, ← ih, wd_sp]
   unfold wds
   by_cases h : (wd T).1 = []
   ·simp [h]
   ·simp [h]
  | false =>
   rw [wd_no]
   simp [← ih]
theorem wds_flat (l : List Int) : (wds (tg mk l)).flatten = leftS (S := sp) (mk := mk) l := by
 unfold leftS
 rw [← wd_flat]
 unfold wds
 by_cases h : (wd (tgS sp mk l)).1 = []
 ·simp [h]
 ·simp [h]
end
end Go.Proofs.YtdgnekknmpfepaaGreatDoor.Pure
