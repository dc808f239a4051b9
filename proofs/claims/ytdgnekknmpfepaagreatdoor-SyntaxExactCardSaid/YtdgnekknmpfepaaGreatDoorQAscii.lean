import Derived.Test.YtdgnekknmpfepaaGreatDoorQGuardText
import Derived.Test.YtdgnekknmpfepaaGreatDoorQBlankEv
import Derived.Test.YtdgnekknmpfepaaGreatDoorP1
import Derived.Test.YtdgnekknmpfepaaGreatDoorP4
import Derived.Test.YtdgnekknmpfepaaGreatDoorP5
import Derived.Test.YtdgnekknmpfepaaGreatDoorP6
/- prep.Value, for ASCII: what it tells is no error. -/
namespace Go.Proofs.YtdgnekknmpfepaaGreatDoor.Pure
open Go.RowKit Go.Proofs.YtdgnekknmpfepaaGreatDoor.P Go.Proofs.YtdgnekknmpfepaaGreatDoorW.PrintWords Go.Proofs.YtdgnekknmpfepaaGreatDoorW.PrintLast
open Utf
set_option linter.unusedVariables false
set_option linter.unusedSimpArgs false
set_option maxRecDepth 100000
def lowL (l : List Int) : Bool := l.all (fun r => decide (0 ≤ r) && decide (r < 128))
theorem high_eq (r : Int) : nfkc_plain_1.f r = some (!(decide (0 ≤ r) && decide (r < 128))) := by
 unfold nfkc_plain_1.f
 by_cases h : r < 0
 ·rw [if_pos h, decide_eq_false (show ¬ 0 ≤ r by omega)]; rfl
 ·rw [if_neg h, decide_eq_true (show 0 ≤ r by omega), Bool.true_and]
  by_cases g : r ≥ 128
  ·rw [decide_eq_true g, decide_eq_false (show ¬ r < 128 by omega)]; rfl
  ·rw [decide_eq_false g, decide_eq_true (show r < 128 by omega)]; rfl
theorem plain_loop (pre suf : List Int) (hb : pre.length + suf.length < 1000000) (n : Int) (hn : n = ((pre ++ suf).length : Int)) :
  Ev (fun k => (slices_IndexFunc_rune_rune_nfkc_plain_1.l0 k (pre ++ suf) n (pre.length : Int)).bind fun t => some (decide (t ≥ 0))) (!lowL suf) := by
 induction suf generalizing pre with
 | nil =>
  refine Ev.bind (Ev.step (fun k => by simp only [slices_IndexFunc_rune_rune_nfkc_plain_1.l0]; rfl) (ev_neg (by subst hn; simp) (Ev.now _))) (ev_some (by simp [lowL]))
 | cons a t ih =>
  simp only [List.length_cons] at hb
  by_cases c : (decide (0 ≤ a) && decide (a < 128)) = true
  ·have h1 := ih (pre ++ [a]) (by simp; omega) (by rw [hn]; simp)
   refine Ev.step (g := fun k => (slices_IndexFunc_rune_rune_nfkc_plain_1.l0 k (pre ++ a :: t) n (pre.length : Int)).bind fun t => some (decide (t ≥ 0))) (f := fun k => (slices_IndexFunc_rune_rune_nfkc_plain_1.l0 k ((pre ++ [a]) ++ t) n (((pre ++ [a]).length : Nat) : Int)).bind fun t => some (decide (t ≥ 0))) (fun k => ?_) (ev_eq h1 (by simp [lowL, c]))
   have hx : (pre.length : Int) < n := by rw [hn]; exact mid_lt pre a t
   simp only [slices_IndexFunc_rune_rune_nfkc_plain_1.l0]
   rw [if_pos hx, if_pos (by omega), if_pos (mid_lt pre a t), rd_mid, high_eq, c, w64 (by omega) (by omega), mid_snoc pre, ← len_snoc pre a]
   rfl
  ·have c' := (Bool.not_eq_true _).mp c
   refine Ev.bind (a := (pre.length : Int)) (Ev.step (fun k => by simp only [slices_IndexFunc_rune_rune_nfkc_plain_1.l0]; rfl) ?_) (ev_some ?_)
   ·refine ev_pos (by rw [hn]; exact mid_lt pre a t) (ev_pos (by omega) (ev_pos (mid_lt pre a t) ?_))
    rw [rd_mid]
    refine ev_bind0 (high_eq a) (ev_pos (by rw [c']; rfl) (Ev.now _))
   ·simp only [lowL, List.all_cons, c', Bool.false_and, Bool.not_false]
    simp
theorem plain_ev (l : List Int) (hb : l.length < 1000000) : Ev (fun k => nfkc_plain.f k l) (lowL l) := by
 unfold nfkc_plain.f slices_ContainsFunc_rune_rune_nfkc_plain_1.f slices_IndexFunc_rune_rune_nfkc_plain_1.f
 have := plain_loop [] l (by simpa using hb) _ rfl
 refine ev_eq (Ev.bind (show Ev (fun k => (slices_IndexFunc_rune_rune_nfkc_plain_1.l0 k l (l.length : Int) 0).bind fun t => some (decide (t ≥ 0))) (!lowL l) by simpa using this) (Ev.now _)) (by simp)
theorem leftS_mem {S mk : Int → Bool} (l : List Int) : ∀ x ∈ leftS (S := S) (mk := mk) l, x ∈ l := by
 induction l with
 | nil => intro x hx; exact absurd hx (by simp [leftS, tgS])
 | cons a t ih =>
  intro x hx
  rw [leftS_cons] at hx
  split at hx
  ·exact List.mem_cons_of_mem _ (ih x hx)
  ·rcases List.mem_cons.1 hx with rfl | h
   ·exact List.mem_cons_self
   ·exact List.mem_cons_of_mem _ (ih x h)
theorem tails_mem (ws : List (List Int)) (x : Int) (h : x ∈ tails ws) : x = 32 ∨ x ∈ ws.flatten := by
 obtain ⟨w, hw, hx⟩ := List.mem_flatMap.1 h
 rcases List.mem_cons.1 hx with e | hx
 ·exact .inl e
 ·rcases List.mem_cons.1 hx with e | hx
  ·exact .inl e
  ·exact .inr (List.mem_flatten.2 ⟨w, hw, hx⟩)
theorem join2_mem : ∀ (ws : List (List Int)) (x : Int), x ∈ join2 ws → x = 32 ∨ x ∈ ws.flatten
 | [], x, h => by simp [join2] at h
 | w :: ws, x, h => by
  rw [join2, List.mem_append] at h
  rw [List.flatten_cons, List.mem_append]
  rcases h with h | h
  ·exact .inr (.inl h)
  ·exact (tails_mem ws x h).imp id .inr
theorem vFirm_mem (l : List Int) : ∀ x ∈ vFirm l, x = 32 ∨ x ∈ l := by
 intro x hx
 unfold vFirm at hx
 split at hx
 ·exact .inr hx
 ·exact List.mem_cons.1 hx
theorem vVal_mem (l : List Int) : ∀ x ∈ vVal l, x = 32 ∨ x ∈ l := by
 intro x hx
 unfold vVal at hx
 simp only [List.mem_cons, List.mem_append, List.not_mem_nil, or_false] at hx
 rcases hx with h | h | h
 ·exact .inl h
 ·rcases join2_mem _ x h with h | h
  ·exact .inl h
  ·rw [wds_flat] at h
   exact vFirm_mem l x (leftS_mem _ x h)
 ·exact .inl h
theorem enc_app (l m : List Int) : enc (l ++ m) = enc l ++ enc m := List.flatMap_append
theorem laid_ok {l : List Int} (h : ∀ r ∈ l, pt r) : laid l = (strOfNums (enc l), 0) := if_pos h
theorem laid_no {l : List Int} (h : ¬ ∀ r ∈ l, pt r) : laid l = (⟨#[]⟩, 10) := if_neg h
theorem rdS_of {S : ByteArray} {l : List Int} (h : ∀ r ∈ l, pt r) (e : ints S = enc l) : rdS S = (l, (S.size : Int), 0) := by
 have hz : (enc l).length = S.size := by rw [← e, ints_length]
 unfold rdS
 rw [e, runes_enc h S.size 0 [] (by omega), hz]
 simp
theorem chkV_ok {l : List Int} (h : ∀ r ∈ l, fitK r = true) : (chkV l).2 = 0 := by
 have e : fitN l = l.length := by
  induction l with
  | nil => rfl
  | cons a t ih =>
   rw [fitN_yes t (h a List.mem_cons_self), ih (fun r hr => h r (List.mem_cons_of_mem _ hr))]
   rfl
 unfold chkV
 rw [e]
 simp
def aOne (r : Int) : List Int := if cKind r = 6 then [] else if cKind r = 5 then [32] else [r]
def aMap (l : List Int) : List Int := l.flatMap aOne
theorem aOne_length (r : Int) : (aOne r).length ≤ 1 := by
 unfold aOne
 split
 ·simp
 split <;> simp
theorem aMap_length (l : List Int) : (aMap l).length ≤ l.length := by
 induction l with
 | nil => simp [aMap]
 | cons a t ih =>
  have := aOne_length a
  unfold aMap at ih ⊢
  simp only [List.flatMap_cons, List.length_append, List.length_cons]
  omega
theorem aMap_cons (a : Int) (t : List Int) : aMap (a :: t) = aOne a ++ aMap t := by simp [aMap]
theorem amap_loop (acc pre suf : List Int) (hb : pre.length + suf.length < 9000000000000000000) (ha : acc.length + suf.length < 35184372088832) :
  Ev (fun k => fold_Map.l0 k false acc (pre ++ suf) ((pre ++ suf).length : Int) (pre.length : Int)) (acc ++ aMap suf) := by
 induction suf generalizing pre acc with
 | nil =>
  refine Ev.step (fun k => by simp only [fold_Map.l0]; rfl) ?_
  exact ev_neg (by simp) (ev_some (by simp [aMap]))
 | cons a t ih =>
  refine Ev.step (fun k => by simp only [fold_Map.l0]; rfl) ?_
  refine ev_pos (mid_lt pre a t) (ev_pos (by omega) (ev_pos (mid_lt pre a t) ?_))
  rw [rd_mid]
  simp only [List.length_cons] at hb ha
  have hm := aOne_length a
  rw [aMap_cons]
  have next : ∀ x : List Int, x = aOne a → Ev (fun k => fold_Map.l0 k false (acc ++ x) (pre ++ a :: t) ((pre ++ a :: t).length : Int) (wrap64 ((pre.length : Int) + 1))) (acc ++ (aOne a ++ aMap t)) := by
   intro x hx
   rw [w64 (by omega) (by omega), mid_snoc pre, ← len_snoc pre a]
   refine ev_eq (ih (acc ++ x) (pre ++ [a]) (by simp; omega) (by rw [hx]; simp; omega)) ?_
   rw [hx, List.append_assoc]
  refine Ev.bind (is_ev a [6] (by simp)) ?_
  refine ev_ite (fun h => ?_) (fun h => ?_)
  ·have e : aOne a = [] := by unfold aOne; rw [if_pos (by simpa using h)]
   simpa using next [] e.symm
  have h6 : ¬ cKind a = 6 := by simpa using h
  refine Ev.bind (is_ev a [5] (by simp)) ?_
  refine ev_ite (fun h => ?_) (fun h => ?_)
  ·have e : aOne a = [32] := by unfold aOne; rw [if_neg h6, if_pos (by simpa using h)]
   exact ev_pos (by omega) (next _ e.symm)
  have h5 : ¬ cKind a = 5 := by simpa using h
  have e : aOne a = [a] := by unfold aOne; rw [if_neg h6, if_neg h5]
  exact ev_neg (by decide) (ev_pos (by omega) (next _ e.symm))
theorem amap_ev (l : List Int) (h : l.length < 10000000000000) : Ev (fun k => fold_Map.f k false l) (aMap l) := by
 have := amap_loop [] [] l (by simp; omega) (by simp; omega)
 unfold fold_Map.f
 simpa using this
def Asc (l : List Int) : Prop := ∀ x ∈ l, 0 ≤ x ∧ x < 128
theorem aOk : ∀ n : Fin 128, (aOne (n.val : Int)).all (fun x => decide (0 ≤ x) && decide (x < 128) && fitK x) = true := by decide +kernel
theorem aMap_ok {l : List Int} (h : Asc l) : ∀ x ∈ aMap l, 0 ≤ x ∧ x < 128 ∧ fitK x = true := by
 intro x hx
 obtain ⟨c, hc, hx⟩ := List.mem_flatMap.1 hx
 obtain ⟨h0, h1⟩ := h c hc
 obtain ⟨n, rfl⟩ := Int.eq_ofNat_of_zero_le h0
 have := List.all_eq_true.1 (aOk ⟨n, by omega⟩) x hx
 simp only [Bool.and_eq_true, decide_eq_true_eq] at this
 exact ⟨this.1.1, this.1.2, this.2⟩
theorem enc_low {x : Int} (h0 : 0 ≤ x) (h1 : x < 128) : enc1 x = [x] := by
 unfold enc1
 first | rw [if_pos h1] | (simp [h1]; done) | (simp [h1, show len x = 1 from by unfold len; rw [if_pos ⟨by omega, by omega⟩, if_pos h1]]; done)
theorem enc_asc {l : List Int} (h : Asc l) : enc l = l := by
 induction l with
 | nil => rfl
 | cons a t ih =>
  have ha := h a List.mem_cons_self
  show enc1 a ++ enc t = _
  rw [enc_low ha.1 ha.2, ih (fun x hx => h x (List.mem_cons_of_mem _ hx))]
  rfl
theorem known1 : prep_known.f 1 = some true := by decide +kernel
theorem asteps_ev (l : List Int) (h : l.length < 5000) (hA : Asc l) : Ev (fun k => prep_Steps.f k 1 l) (vVal (aMap l), 0) := by
 unfold prep_Steps.f
 refine ev_bind0 known1 (ev_pos rfl (ev_neg (by decide) ?_))
 have hm := aMap_length l
 refine Ev.bind (amap_ev l (by omega)) ?_
 have hk := aMap_ok hA
 refine Ev.step (fun k => by simp only [prep_Steps.j0]; rfl) ?_
 have hl : lowL (aMap l) = true := by
  unfold lowL
  rw [List.all_eq_true]
  intro x hx
  have := hk x hx
  simp
  omega
 have hn : Ev (fun k => nfkc_Runes.f k true (aMap l)) (aMap l) := by
  unfold nfkc_Runes.f
  refine Ev.bind (plain_ev _ (by omega)) (ev_pos hl ?_)
  exact ev_bind0 (show slices_Clone_rune_rune.f (aMap l) = some (aMap l) by unfold slices_Clone_rune_rune.f; rw [if_pos (by omega)]) (Ev.now _)
 refine Ev.bind hn (Ev.bind (check_ev _ (by omega)) (ev_pos (chkV_ok (fun r hr => (hk r hr).2.2)) ?_))
 exact ev_neg (by decide) (ev_neg (by decide) (Ev.bind (value_ev _ (by omega)) (Ev.now _)))
theorem aval_ev {S : ByteArray} (hs : S.size ≤ 400) (hA : Asc (ints S)) : ∃ T, Ev (fun k => prep_Value.f k 1 S) (T, 0) := by
 have hpt : ∀ r ∈ ints S, pt r := fun r hr => by
  have := hA r hr
  exact ⟨by omega, by omega⟩
 have hr : Ev (fun k => utf_Runes.f k S) (ints S, (S.size : Int), 0) := by
  rw [← rdS_of hpt (enc_asc hA).symm]
  exact runes_ev (by omega)
 have hl := ints_length S
 have hm := aMap_length (ints S)
 have hv := vVal_length (aMap (ints S))
 have hp : ∀ r ∈ vVal (aMap (ints S)), pt r := by
  intro x hx
  rcases vVal_mem _ x hx with rfl | hx
  ·exact ⟨by omega, by omega⟩
  ·have := aMap_ok hA x hx
   exact ⟨by omega, by omega⟩
 refine ⟨strOfNums (enc (vVal (aMap (ints S)))), ?_⟩
 unfold prep_Value.f
 refine ev_bind0 known1 (ev_pos rfl (ev_neg (by omega) (Ev.bind hr (ev_pos rfl (Ev.bind (asteps_ev (ints S) (by omega) hA) (ev_pos rfl ?_))))))
 have he := encode_ev (vVal (aMap (ints S))) (by omega)
 rw [laid_ok hp] at he
 exact Ev.bind he (Ev.now _)
end Go.Proofs.YtdgnekknmpfepaaGreatDoor.Pure
