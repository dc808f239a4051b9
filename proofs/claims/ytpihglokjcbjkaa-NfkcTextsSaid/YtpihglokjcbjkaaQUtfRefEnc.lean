import Derived.Test.YtpihglokjcbjkaaQUtfRef
import Derived.Test.YtpihglokjcbjkaaT12
/- Layer 1 (utf): what the reference's functions come to. -/
namespace Go.Proofs.Ytpihglokjcbjkaa.Pure
open Go.RowKit Go.Proofs.Ytpihglokjcbjkaa.P Go.Proofs.YtpihglokjcbjkaaW.PrintWords Go.Proofs.YtpihglokjcbjkaaW.PrintLast Go.Proofs.YtpihglokjcbjkaaW.PrintMore
open Utf
set_option linter.unusedVariables false
theorem rencode_loop (pre suf : List Int) (acc : List Int) (hb : Byte acc) (hl : pre.length + suf.length ≤ 1000000000) (ha : acc.length ≤ 4 * pre.length) (hw : ∀ r ∈ suf, -9223372036854775808 ≤ r ∧ r ≤ 9223372036854775807) :
  Ev (fun k => toponymref01_Encode.l0 k (pre ++ suf) (strOfNums acc) (pre.length : Int)) (if (∀ r ∈ suf, pt r) then (strOfNums (acc ++ enc suf), 0) else (⟨#[]⟩, 10)) := by
 induction suf generalizing pre acc with
 | nil =>
  refine Ev.step (fun k => by simp only [toponymref01_Encode.l0]; rfl) ?_
  exact ev_neg (by simp) (ev_some (by simp [enc]))
 | cons r suf ih =>
  simp only [List.length_cons] at hl
  refine Ev.step (fun k => by simp only [toponymref01_Encode.l0]; rfl) ?_
  refine ev_pos (mid_lt pre r suf) (ev_pos (by omega) ?_)
  rw [rd_mid]
  refine ev_bind0 (rpoint_ev r (hw r (by simp))) ?_
  by_cases hp : pt r
  ·have h4 := enc1_len4 r
   refine ev_pos (by simpa using hp) (ev_bind0 (uone_ev hp) ?_)
   have z1 : (strOfNums acc).size = acc.length := by rw [← ints_length, ints_strOfNums hb]
   have z2 : (strOfNums (enc1 r)).size = (enc1 r).length := by rw [← ints_length, ints_strOfNums (enc1_byte hp)]
   refine ev_pos (by rw [z1, z2]; omega) ?_
   rw [strOfNums_append, w64 (by omega) (by omega), ← len_snoc pre r, mid_snoc]
   refine ev_eq (ih (pre ++ [r]) (acc ++ enc1 r) ?_ (by simp; omega) (by simp; omega) (fun x hx => hw x (by simp [hx]))) ?_
   ·intro x hx
    rcases List.mem_append.1 hx with hx | hx
    ·exact hb x hx
    ·exact enc1_byte hp x hx
   ·simp [enc, hp, List.append_assoc]
  ·refine ev_neg (by simpa using hp) (ev_some ?_)
   rw [if_neg (fun h => hp (h r (by simp)))]
theorem rencode_ev (l : List Int) (hl : l.length ≤ 1000000000) (hw : ∀ r ∈ l, -9223372036854775808 ≤ r ∧ r ≤ 9223372036854775807) : Ev (fun k => toponymref01_Encode.f k l) (laid l) := by
 unfold toponymref01_Encode.f
 have := rencode_loop [] l [] (by intro x hx; cases hx) (by simpa using hl) (by simp) hw
 exact ev_eq this (by simp [laid])
end Go.Proofs.Ytpihglokjcbjkaa.Pure
