import Derived.Test.YtbffakgmlgimeaaQPrep
import Derived.Test.YtbffakgmlgimeaaP11
/- The characters of what prep tells. -/
namespace Go.Proofs.Ytbffakgmlgimeaa.Pure
open Go.RowKit Go.Proofs.Ytbffakgmlgimeaa.P Go.Proofs.YtbffakgmlgimeaaW.PrintWords Go.Proofs.YtbffakgmlgimeaaW.PrintLast
open Hangul Utf
set_option linter.unusedVariables false
set_option linter.unusedSimpArgs false
theorem leftS_mem {S mk : Int → Bool} (l : List Int) : ∀ x ∈ leftS (S := S) (mk := mk) l, x ∈ l := by
 induction l with
 | nil => intro x hx; exact absurd hx (by simp [leftS, tgS])
 | cons a t ih =>
  intro x hx
  rw [leftS_cons] at hx
  split at hx
  ·exact List.mem_cons_of_mem _ (ih x hx)
  ·rcases List.mem_cons.1 hx with rfl | h
   ·exact List.mem_cons_self
   ·exact List.mem_cons_of_mem _ (ih x h)
theorem tails_mem (ws : List (List Int)) (x : Int) (h : x ∈ tails ws) : x = 32 ∨ x ∈ ws.flatten := by
 obtain ⟨w, hw, hx⟩ := List.mem_flatMap.1 h
 rcases List.mem_cons.1 hx with e | hx
 ·exact .inl e
 ·rcases List.mem_cons.1 hx with e | hx
  ·exact .inl e
  ·exact .inr (List.mem_flatten.2 ⟨w, hw, hx⟩)
theorem join2_mem : ∀ (ws : List (List Int)) (x : Int), x ∈ join2 ws → x = 32 ∨ x ∈ ws.flatten
 | [], x, h => by simp [join2] at h
 | w :: ws, x, h => by
  rw [join2, List.mem_append] at h
  rw [List.flatten_cons, List.mem_append]
  rcases h with h | h
  ·exact .inr (.inl h)
  ·exact (tails_mem ws x h).imp id .inr
theorem vFirm_mem (l : List Int) : ∀ x ∈ vFirm l, x = 32 ∨ x ∈ l := by
 intro x hx
 unfold vFirm at hx
 split at hx
 ·exact .inr hx
 ·exact List.mem_cons.1 hx
theorem vVal_mem (l : List Int) : ∀ x ∈ vVal l, x = 32 ∨ x ∈ l := by
 intro x hx
 unfold vVal at hx
 simp only [List.mem_cons, List.mem_append, List.not_mem_nil, or_false] at hx
 rcases hx with h | h | h
 ·exact .inl h
 ·rcases join2_mem _ x h with h | h
  ·exact .inl h
  ·rw [wds_flat] at h
   exact vFirm_mem l x (leftS_mem _ x h)
 ·exact .inl h
theorem enc_app (l m : List Int) : enc (l ++ m) = enc l ++ enc m := List.flatMap_append
theorem laid_ok {l : List Int} (h : ∀ r ∈ l, pt r) : laid l = (strOfNums (enc l), 0) := if_pos h
theorem laid_no {l : List Int} (h : ¬ ∀ r ∈ l, pt r) : laid l = (⟨#[]⟩, 10) := if_neg h
theorem rdS_of {S : ByteArray} {l : List Int} (h : ∀ r ∈ l, pt r) (e : ints S = enc l) : rdS S = (l, (S.size : Int), 0) := by
 have hz : (enc l).length = S.size := by rw [← e, ints_length]
 unfold rdS
 rw [e, runes_enc h S.size 0 [] (by omega), hz]
 simp
theorem rdS_laid {l : List Int} (h : ∀ r ∈ l, pt r) : rdS (strOfNums (enc l)) = (l, ((strOfNums (enc l)).size : Int), 0) := rdS_of h (ints_laid h)
theorem chkV_ok {l : List Int} (h : ∀ r ∈ l, fitK r = true) : (chkV l).2 = 0 := by
 have e : fitN l = l.length := by
  induction l with
  | nil => rfl
  | cons a t ih =>
   rw [fitN_yes t (h a List.mem_cons_self), ih (fun r hr => h r (List.mem_cons_of_mem _ hr))]
   rfl
 unfold chkV
 rw [e]
 simp
theorem fit_of_chkV {l : List Int} (h : (chkV l).2 = 0) : ∀ r ∈ l, fitK r = true := by
 have e : fitN l = l.length := by
  have := fitN_le l
  unfold chkV at h
  by_cases c : fitN l < l.length
  ·exfalso
   revert h
   simp [c]
  ·omega
 clear h
 induction l with
 | nil => intro r hr; simp at hr
 | cons a t ih =>
  by_cases c : fitK a = true
  ·rw [fitN_yes t c] at e
   simp only [List.length_cons] at e
   intro r hr
   rcases List.mem_cons.1 hr with rfl | hr
   ·exact c
   ·exact ih (by omega) r hr
  ·rw [fitN_no t (by simpa using c)] at e
   simp at e
theorem awake12 : Ev (fun k => (toponymlaw12_awake.f k).bind fun t => some t) true := Ev.bind (Ev.of toponymlaw12_awake.mono (k := 100) (by decide +kernel)) (Ev.now _)
end Go.Proofs.Ytbffakgmlgimeaa.Pure
