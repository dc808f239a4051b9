import Derived.Test.YtbffakgmlgimeaaQPrepForm
import Derived.Test.YtbffakgmlgimeaaQFirm
import Derived.Test.YtbffakgmlgimeaaP7
/- Tables: fit, firm, parts, bytes. -/
namespace Go.Proofs.Ytbffakgmlgimeaa.Pure
open Go.RowKit Go.Proofs.Ytbffakgmlgimeaa.P Go.Proofs.YtbffakgmlgimeaaW.PrintWords Go.Proofs.YtbffakgmlgimeaaW.PrintLast
open Hangul Utf
set_option linter.unusedVariables false
set_option linter.unusedSimpArgs false
set_option maxRecDepth 100000
instance (b : Bool) (x : Int) : Decidable (Firm b x) := by unfold Firm; infer_instance
def flg (l : List Int) : Nat := if bareL mkc l = true then 0 else 1
def cost (l : List Int) : Nat := bts l + l.count 32 + flg l
def isS (x : Int) : Bool := decide (x = 32) || (decide (x = 45) || (decide (x = 8208) || decide (x = 8722)))
def chkT (r : Int) : Bool :=
 let D := (decomp_One.f 60 r true).getD []
 (!fitK r || D.all fitK) && (!decide (Firm true r) || D.all (fun x => decide (Firm true x))) && (!decide (Firm false r) || D.all (fun x => decide (Firm false x))) && decide (cost D ≤ 3 * (enc1 r).length)
theorem chkT_all : dLIST.all chkT = true := by decide +kernel
def chkP (t : Int × Int × Int) : Bool :=
 fitK t.2.2 && decide (Firm false t.2.2) && (!(decide (Firm true t.1) && decide (Firm true t.2.1)) || decide (Firm true t.2.2)) && !isS t.2.2 && ((decomp_One.f 60 t.2.2 true).getD []).all (fun x => !isS x)
theorem chkP_all : TRIPLES.all chkP = true := by decide +kernel
def isJ (n : Nat) : Bool := decide (4352 ≤ n ∧ n ≤ 4370) || decide (4449 ≤ n ∧ n ≤ 4469) || decide (4520 ≤ n ∧ n ≤ 4546)
theorem jamo_all : ∀ n : Fin 200, isJ (n.val + 4352) = true → fitK ((n.val + 4352 : Nat) : Int) = true ∧ Firm true ((n.val + 4352 : Nat) : Int) ∧ Firm false ((n.val + 4352 : Nat) : Int) := by decide +kernel
def JJ (x : Int) : Prop := (4352 ≤ x ∧ x ≤ 4370) ∨ (4449 ≤ x ∧ x ≤ 4469) ∨ (4520 ≤ x ∧ x ≤ 4546)
theorem jamo_at {x : Int} (h : JJ x) : fitK x = true ∧ Firm true x ∧ Firm false x := by
 obtain ⟨n, rfl⟩ := Int.eq_ofNat_of_zero_le (show 0 ≤ x by unfold JJ at h; omega)
 have h2 : isJ n = true := by unfold JJ at h; unfold isJ; simp; omega
 have h1 := jamo_all ⟨n - 4352, by unfold JJ at h; omega⟩
 simp only [show n - 4352 + 4352 = n by unfold JJ at h; omega] at h1
 exact h1 h2
theorem ends_syl : ENDS.all (fun b => decide (b ≤ 44032) || decide (55203 < b)) = true := by decide +kernel
theorem syl_kind {x : Int} (h : 44032 ≤ x ∧ x ≤ 55203) : cKind x = cKind 44032 := by
 refine kind_congr (fun b hb => ?_)
 have := List.all_eq_true.1 ends_syl b hb
 simp only [Bool.or_eq_true, decide_eq_true_eq] at this
 omega
theorem syl_at {x : Int} (h : 44032 ≤ x ∧ x ≤ 55203) : fitK x = true ∧ Firm true x ∧ Firm false x := by
 have e := syl_kind h
 have k : cKind 44032 = 1 := by decide +kernel
 rw [k] at e
 have f : fOne x = [x] := fOne_gap (by omega) (by omega) (by omega)
 refine ⟨by unfold fitK; simp [e], ⟨by omega, by omega, fun _ => f, by omega, by omega⟩, ⟨by omega, by omega, fun _ => f, by omega, by omega⟩⟩
theorem hParts_jj {r : Int} (h : 44032 ≤ r ∧ r ≤ 55203) : ∀ x ∈ hParts r, JJ x := by
 intro x hx
 unfold hParts at hx
 unfold JJ
 split at hx
 ·simp only [List.mem_cons, List.not_mem_nil, or_false] at hx
  omega
 ·simp only [List.mem_cons, List.not_mem_nil, or_false] at hx
  omega
theorem dStep_gen {Q : Int → Prop} {r : Int} (h0 : Q r) (hD : ¬ (44032 ≤ r ∧ r ≤ 55203) → inR dR r = true → ∀ x ∈ (decomp_One.f 60 r true).getD [], Q x) (hH : ∀ x, JJ x → Q x) : ∀ x ∈ dStep true r, Q x := by
 intro x hx
 unfold dStep at hx
 split at hx
 ·rw [List.mem_singleton.1 hx]; exact h0
 split at hx
 ·rw [List.mem_singleton.1 hx]; exact h0
 unfold dOne at hx
 split at hx
 ·rename_i c
  exact hH x (hParts_jj c x hx)
 ·rename_i c
  split at hx
  ·rename_i d
   exact hD c d x hx
  ·rw [List.mem_singleton.1 hx]; exact h0
theorem cPair_gen {Q : Int → Prop} {h r x : Int} (e : cPair h r = some x) (hH : ∀ x, 44032 ≤ x ∧ x ≤ 55203 → Q x) (hT : (h, r, x) ∈ TRIPLES → Q x) : Q x := by
 rcases cPair_join e with g | ⟨g1, g2, g3, g4⟩
 ·have := (hJoin_apart (a := h) (b := r) (by rw [g])).2.2
  rw [g] at this
  exact hH x this
 ·exact hT (tri g3 g4).2
theorem chkT_at {r : Int} (d : inR dR r = true) : chkT r = true := List.all_eq_true.1 chkT_all r (mem_dLIST d)
theorem fit_closed {l : List Int} (h : ∀ r ∈ l, fitK r = true) : ∀ x ∈ nRun true l, fitK x = true := by
 refine nRun_all (fun a b x e _ _ => cPair_gen e (fun x hx => (syl_at hx).1) (fun ht => ?_)) (fun r hr => dStep_gen (h r hr) (fun _ d => ?_) (fun x hx => (jamo_at hx).1))
 ·have := List.all_eq_true.1 chkP_all _ ht
  simp only [chkP, Bool.and_eq_true] at this
  exact this.1.1.1.1
 ·have := chkT_at d
  simp only [chkT, Bool.and_eq_true, h r hr, Bool.not_true, Bool.false_or, List.all_eq_true] at this
  exact this.1.1.1
theorem firm_closed {b : Bool} {l : List Int} (h : ∀ r ∈ l, Firm b r) : ∀ x ∈ nRun true l, Firm b x := by
 refine nRun_all (fun a c x e ha hc => cPair_gen e (fun x hx => by cases b; exact (syl_at hx).2.2; exact (syl_at hx).2.1) (fun ht => ?_)) (fun r hr => dStep_gen (h r hr) (fun _ d => ?_) (fun x hx => by cases b; exact (jamo_at hx).2.2; exact (jamo_at hx).2.1))
 ·have := List.all_eq_true.1 chkP_all _ ht
  cases b
  ·simp only [chkP, Bool.and_eq_true, decide_eq_true_eq] at this
   exact this.1.1.1.2
  ·simp only [chkP, Bool.and_eq_true, decide_eq_true ha, decide_eq_true hc, Bool.true_and, Bool.not_true, Bool.false_or, decide_eq_true_eq] at this
   exact this.1.1.2
 ·have := chkT_at d
  cases b
  ·simp only [chkT, Bool.and_eq_true, decide_eq_true (h r hr), Bool.not_true, Bool.false_or, List.all_eq_true, decide_eq_true_eq] at this
   exact this.1.2
  ·simp only [chkT, Bool.and_eq_true, decide_eq_true (h r hr), Bool.not_true, Bool.false_or, List.all_eq_true, decide_eq_true_eq] at this
   exact this.1.1.2
theorem jj_noS {x : Int} (h : JJ x) : isS x = false := by
 unfold isS JJ at *
 simp
 omega
theorem pair_noS {a b x : Int} (e : cPair a b = some x) : isS x = false := by
 refine cPair_gen (Q := fun x => isS x = false) e (fun x hx => ?_) (fun ht => ?_)
 ·unfold isS
  simp
  omega
 ·have := List.all_eq_true.1 chkP_all _ ht
  simp only [chkP, Bool.and_eq_true, Bool.not_eq_true'] at this
  exact this.1.2
theorem parts_noS (l : List Int) : ∀ x ∈ nRun true l, isS x = false → ∀ y ∈ dStep true x, isS y = false := by
 refine nRun_all (fun a b x e _ _ => ?_) (fun r hr x hx h0 y hy => ?_)
 ·refine cPair_gen (Q := fun x => isS x = false → ∀ y ∈ dStep true x, isS y = false) e (fun x hx h0 => dStep_gen h0 (fun c => absurd hx c) (fun y hy => jj_noS hy)) (fun ht h0 => dStep_gen h0 (fun _ d => ?_) (fun y hy => jj_noS hy))
  have := List.all_eq_true.1 chkP_all _ ht
  simp only [chkP, Bool.and_eq_true, List.all_eq_true, Bool.not_eq_true'] at this
  exact this.2
 ·rw [(dStep_apart true r x hx).1] at hy
  rw [List.mem_singleton.1 hy]
  exact h0
theorem nRun_noS {l : List Int} (h0 : ∀ x ∈ l, isS x = false) (h1 : ∀ x ∈ l, isS x = false → ∀ y ∈ dStep true x, isS y = false) : ∀ x ∈ nRun true l, isS x = false :=
 nRun_all (fun a b x e _ _ => pair_noS e) (fun r hr x hx => h1 r hr (h0 r hr) x hx)
theorem isS_neu {z : Int} (h : isS z = true) : Neu z := by
 simp only [isS, Bool.or_eq_true, decide_eq_true_eq] at h
 rcases h with rfl | rfl | rfl | rfl
 ·exact neu_four.1
 ·exact neu_four.2.1
 ·exact neu_four.2.2.1
 ·exact neu_four.2.2.2
theorem leftS_skip {S : Int → Bool} : ∀ (u w : List Int), (∀ x ∈ u, S x = false) → leftS (S := S) (mk := mkc) (u ++ w) = u ++ leftS (S := S) (mk := mkc) w
 | [], w, _ => rfl
 | a :: t, w, h => by
  rw [List.cons_append, leftS_cons, if_neg (by simp [h a List.mem_cons_self]), leftS_skip t w (fun x hx => h x (List.mem_cons_of_mem _ hx))]
  rfl
theorem leftS_none {S : Int → Bool} (u : List Int) (h : ∀ x ∈ u, S x = false) : leftS (S := S) (mk := mkc) u = u := by
 have := leftS_skip u [] h
 simpa [leftS, tgS] using this
theorem first_split {S : Int → Bool} : ∀ (x : List Int), (∀ y ∈ x, S y = false) ∨ ∃ u z v, x = u ++ z :: v ∧ S z = true ∧ ∀ y ∈ u, S y = false
 | [] => .inl (fun y hy => by simp at hy)
 | a :: t => by
  by_cases c : S a = true
  ·exact .inr ⟨[], a, t, rfl, c, fun y hy => by simp at hy⟩
  ·rw [Bool.not_eq_true] at c
   rcases first_split (S := S) t with h | ⟨u, z, v, e, hz, hu⟩
   ·refine .inl (fun y hy => ?_)
    rcases List.mem_cons.1 hy with rfl | hy
    ·exact c
    ·exact h y hy
   ·refine .inr ⟨a :: u, z, v, by rw [e]; rfl, hz, fun y hy => ?_⟩
    rcases List.mem_cons.1 hy with rfl | hy
    ·exact c
    ·exact hu y hy
theorem leftS_stay {S : Int → Bool} (hS : ∀ x, S x = true → isS x = true) : ∀ (n : Nat) (x : List Int), x.length ≤ n → (∀ y ∈ x, isS y = false → ∀ w ∈ dStep true y, isS w = false) → leftS (S := S) (mk := mkc) x = x → leftS (S := S) (mk := mkc) (nRun true x) = nRun true x := by
 have hS' : ∀ x, isS x = false → S x = false := fun x h => by
  cases c : S x
  ·rfl
  ·rw [hS x c] at h
   cases h
 have free : ∀ u : List Int, (∀ y ∈ u, S y = false) → (∀ y ∈ u, isS y = false → ∀ w ∈ dStep true y, isS w = false) → ∀ y ∈ nRun true u, S y = false := fun u h0 h1 =>
  nRun_all (fun a b x e _ _ => hS' x (pair_noS e)) (fun r hr x hx => by
   cases c : isS r
   ·exact hS' x (h1 r hr c x hx)
   ·rw [(isS_neu c).stp] at hx
    rw [List.mem_singleton.1 hx]
    exact h0 r hr)
 intro n
 induction n with
 | zero =>
  intro x hn _ _
  obtain rfl := List.length_eq_zero_iff.1 (show x.length = 0 by omega)
  rfl
 | succ n ih =>
  intro x hn hg hl
  rcases first_split (S := S) x with h | ⟨u, z, v, rfl, hz, hu⟩
  ·exact leftS_none _ (free x h hg)
  ·rw [nRun_mid (isS_neu (hS z hz))]
   rw [leftS_skip u _ hu, List.append_cancel_left_eq, leftS_cons] at hl
   have hb : bareL mkc v = false := by
    cases c : bareL mkc v
    ·rfl
    ·rw [c, hz, if_pos (show (true && true) = true from rfl)] at hl
     have := congrArg List.length hl
     have h3 := leftS_length (S := S) (mk := mkc) v
     simp only [List.length_cons] at this
     omega
   rw [hb, Bool.and_false, if_neg (by decide), List.cons.injEq] at hl
   simp only [List.length_append, List.length_cons] at hn
   have h4 := ih v (by omega) (fun y hy => hg y (by simp [hy])) hl.2
   rw [leftS_skip _ _ (free u hu (fun y hy => hg y (by simp [hy]))), leftS_cons, nRun_mark hb, Bool.and_false, if_neg (by decide), h4]
end Go.Proofs.Ytbffakgmlgimeaa.Pure
