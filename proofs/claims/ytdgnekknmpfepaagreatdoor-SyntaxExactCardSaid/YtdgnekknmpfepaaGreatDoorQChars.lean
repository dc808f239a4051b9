import Derived.Test.YtdgnekknmpfepaaGreatDoorQKind
import Derived.Laws.BitsLemmas
import Derived.Test.YtdgnekknmpfepaaGreatDoorP1
import Derived.Test.YtdgnekknmpfepaaGreatDoorP2
import Derived.Test.YtdgnekknmpfepaaGreatDoorP3
import Derived.Test.YtdgnekknmpfepaaGreatDoorP4
/- chars.Kind, Is: tables of ranges. (The tables' rows: mkchars.py.) -/
namespace Go.Proofs.YtdgnekknmpfepaaGreatDoor.Pure
open Go.RowKit Go.Proofs.YtdgnekknmpfepaaGreatDoor.P Go.Proofs.YtdgnekknmpfepaaGreatDoorW.PrintWords Go.Proofs.YtdgnekknmpfepaaGreatDoorW.PrintLast
set_option linter.unusedVariables false
set_option linter.unusedSimpArgs false
set_option maxRecDepth 100000
theorem letter_eq (r : Int) : chars_letter.f r = some (inR cLET r) := by
 simp only [chars_letter.f, inR, cLET, List.any_cons, List.any_nil, Bool.or_false, Bool.or_assoc, beq_rng]
theorem sign_eq (r : Int) : chars_sign.f r = some (inR cSIG r) := by
 simp only [chars_sign.f, inR, cSIG, List.any_cons, List.any_nil, Bool.or_false, Bool.or_assoc, beq_rng]
theorem gone_eq (r : Int) : chars_gone.f r = some (inR cGON r) := by
 simp only [chars_gone.f, inR, cGON, List.any_cons, List.any_nil, Bool.or_false, Bool.or_assoc, beq_rng]
theorem digit_eq (r : Int) : chars_digit.f r = some (inR cDIG r) := by
 simp only [chars_digit.f, inR, cDIG, List.any_cons, List.any_nil, Bool.or_false, rng_or, rng_last, eq_or, beq_rng]
theorem space_eq (r : Int) : chars_space.f r = some (inR cSPA r) := by
 simp only [chars_space.f, inR, cSPA, List.any_cons, List.any_nil, Bool.or_false, rng_or, rng_last, eq_or, beq_rng]
theorem low_bits {r : Int} (h0 : 65535 < r) (h1 : r ≤ 1114111) : (Go.bits .and .i32 r 65534 == 65534) = decide (65534 ≤ r % 65536) := by
 obtain ⟨n, rfl⟩ := Int.eq_ofNat_of_zero_le (show 0 ≤ r by omega)
 have e : Go.bits .and .i32 (n : Int) 65534 = ((n &&& 65534 : Nat) : Int) := (bits_nat .i32 31 (by decide) wraps_i32 n 65534 (by omega) (by decide)).1
 have e2 : n &&& 65534 = n % 65536 / 2 * 2 := by
  have h1 : (n &&& 65534) / 2 = n / 2 &&& 32767 := by
   have := Nat.and_div_two_pow (a := n) (b := 65534) (n := 1)
   simpa using this
  have h2 : (n &&& 65534) % 2 = 0 := by
   have := Nat.and_mod_two_pow (a := n) (b := 65534) (n := 1)
   simpa using this
  have h3 : n / 2 &&& 32767 = n / 2 % 32768 := Nat.and_two_pow_sub_one_eq_mod (n / 2) 15
  omega
 rw [e, e2, Bool.eq_iff_iff]
 simp
 omega
theorem bad_tail (r : Int) : (if r > 65535 then (if r ≤ 1114111 then (some ((Go.bits .and .i32 r 65534) == 65534)) else (some false)) else (some false)) = some (inR (cBAD.drop 4) r) := by
 by_cases h0 : 65535 < r
 ·by_cases h1 : r ≤ 1114111
  ·rw [if_pos h0, if_pos h1, low_bits h0 h1]
   refine congrArg some (Bool.eq_iff_iff.2 ?_)
   ·simp only [inR, cBAD, List.drop_succ_cons, List.drop_zero, List.any_cons, List.any_nil, Bool.or_eq_true, Bool.and_eq_true, decide_eq_true_eq, Bool.false_eq_true, or_false]
    omega
  ·rw [if_pos h0, if_neg h1]
   refine congrArg some (Eq.symm (Bool.eq_false_iff.2 ?_))
   simp only [inR, cBAD, List.drop_succ_cons, List.drop_zero, List.any_cons, List.any_nil, Bool.or_eq_true, Bool.and_eq_true, decide_eq_true_eq, Bool.false_eq_true, or_false, ne_eq]
   omega
 ·rw [if_neg h0]
  refine congrArg some (Eq.symm (Bool.eq_false_iff.2 ?_))
  simp only [inR, cBAD, List.drop_succ_cons, List.drop_zero, List.any_cons, List.any_nil, Bool.or_eq_true, Bool.and_eq_true, decide_eq_true_eq, Bool.false_eq_true, or_false, ne_eq]
  omega
theorem bad_eq (r : Int) : chars_bad.f r = some (inR cBAD r) := by
 have e : inR cBAD r = ((decide (832 ≤ r) && decide (r ≤ 833)) || ((decide (57344 ≤ r) && decide (r ≤ 63743)) || ((decide (64976 ≤ r) && decide (r ≤ 65007)) || ((decide (65533 ≤ r) && decide (r ≤ 65535)) || inR (cBAD.drop 4) r)))) := rfl
 simp only [chars_bad.f, bad_tail, rng_or, e]
theorem kind_eq (r : Int) : chars_Kind.f r = some (cKind r) := by
 simp only [chars_Kind.f, letter_eq, digit_eq, mark_eq, sign_eq, space_eq, gone_eq, bad_eq, Option.bind_some, cKind]
 repeat' (split <;> try rfl)
theorem index_ev (x : Int) (pre suf : List Int) (hb : pre.length + suf.length < 9000000000000000000) (hp : x ∉ pre) : Ev (fun k => slices_Index_int_int.l0 k (pre ++ suf) x ((pre ++ suf).length : Int) (pre.length : Int)) (if x ∈ suf then ((pre ++ suf).idxOf x : Int) else -1) := by
 induction suf generalizing pre with
 | nil =>
  refine Ev.step (fun k => by simp only [slices_Index_int_int.l0]; rfl) ?_
  exact ev_neg (by simp) (ev_some (by simp))
 | cons a t ih =>
  refine Ev.step (fun k => by simp only [slices_Index_int_int.l0]; rfl) ?_
  refine ev_pos (mid_lt pre a t) (ev_pos (by omega) (ev_pos (mid_lt pre a t) ?_))
  rw [rd_mid]
  simp only [List.length_cons] at hb
  refine ev_ite (fun h => ev_some ?_) (fun h => ?_)
  ·subst h
   simp [List.idxOf_append, hp]
  ·rw [w64 (by omega) (by omega), mid_snoc pre, ← len_snoc pre a]
   refine ev_eq (ih (pre ++ [a]) (by simp; omega) (by simp [hp, h])) ?_
   simp [h]
theorem contains_ev (l : List Int) (x : Int) (hb : l.length < 9000000000000000000) : Ev (fun k => slices_Contains_int_int.f k l x) (decide (x ∈ l)) := by
 unfold slices_Contains_int_int.f slices_Index_int_int.f
 have := index_ev x [] l (by simpa using hb) (by simp)
 refine Ev.bind this (ev_some ?_)
 by_cases h : x ∈ l <;> simp [h]
theorem is_ev (r : Int) (l : List Int) (hb : l.length < 9000000000000000000) : Ev (fun k => chars_Is.f k r l) (decide (cKind r ∈ l)) := by
 unfold chars_Is.f
 refine ev_bind0 (kind_eq r) ?_
 exact Ev.bind (contains_ev l _ hb) (Ev.now _)
end Go.Proofs.YtdgnekknmpfepaaGreatDoor.Pure
