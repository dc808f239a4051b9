import Derived.Test.YtpihglokjcbjkaaQUtfEnc
import Derived.Test.YtpihglokjcbjkaaT11
/- Layer 1 (utf): what the reference's functions come to. -/
namespace Go.Proofs.Ytpihglokjcbjkaa.Pure
open Go.RowKit Go.Proofs.Ytpihglokjcbjkaa.P Go.Proofs.YtpihglokjcbjkaaW.PrintWords Go.Proofs.YtpihglokjcbjkaaW.PrintLast Go.Proofs.YtpihglokjcbjkaaW.PrintMore
open Utf
set_option linter.unusedVariables false
theorem rpoint_ev (r : Int) (h : -9223372036854775808 ≤ r ∧ r ≤ 9223372036854775807) : toponymref01_Point.f r = some (decide (pt r)) := by
 unfold toponymref01_Point.f pt
 rw [w64 h.1 h.2]
 by_cases h0 : r ≥ 0
 ·rw [if_pos h0]
  by_cases h1 : r ≤ 1114111
  ·rw [if_pos h1]
   by_cases h2 : r ≥ 55296
   ·rw [if_pos h2]
    exact congrArg some (by rw [Bool.eq_iff_iff]; simp; omega)
   ·rw [if_neg h2]; exact congrArg some (decide_eq_true (by omega)).symm
  ·rw [if_neg h1]; exact congrArg some (decide_eq_false (by omega)).symm
 ·rw [if_neg h0]; exact congrArg some (decide_eq_false (by omega)).symm
theorem uone_ev {r : Int} (hp : pt r) : toponymref01_one.f r = some (strOfNums (enc1 r)) := by
 unfold pt at hp
 have hw : wrap64 r = r := w64 (by omega) (by omega)
 unfold toponymref01_one.f enc1
 simp only [hw, Int.tdiv_eq_ediv_of_nonneg hp.1.1, Int.tmod_eq_emod_of_nonneg hp.1.1]
 rw [w64 (x := r / 64) (by omega) (by omega), w64 (x := r / 4096) (by omega) (by omega), w64 (x := r / 262144) (by omega) (by omega)]
 rw [Int.tmod_eq_emod_of_nonneg (show 0 ≤ r / 64 by omega), Int.tmod_eq_emod_of_nonneg (show 0 ≤ r / 4096 by omega)]
 by_cases c1 : r < 128
 ·rw [if_pos c1, if_pos c1, show r % 256 = r by omega]
 rw [if_neg c1, if_neg c1]
 by_cases c2 : r < 2048
 ·rw [if_pos c2, if_pos c2, w64 (x := 192 + r / 64) (by omega) (by omega), w64 (x := 128 + r % 64) (by omega) (by omega), show (192 + r / 64) % 256 = 192 + r / 64 by omega, show (128 + r % 64) % 256 = 128 + r % 64 by omega]
 rw [if_neg c2, if_neg c2]
 rw [w64 (x := 128 + r / 64 % 64) (by omega) (by omega), w64 (x := 128 + r % 64) (by omega) (by omega), w64 (x := 224 + r / 4096) (by omega) (by omega), w64 (x := 240 + r / 262144) (by omega) (by omega), w64 (x := 128 + r / 4096 % 64) (by omega) (by omega)]
 by_cases c3 : r < 65536
 ·rw [if_pos c3, if_pos c3, show (224 + r / 4096) % 256 = 224 + r / 4096 by omega, show (128 + r / 64 % 64) % 256 = 128 + r / 64 % 64 by omega, show (128 + r % 64) % 256 = 128 + r % 64 by omega]
 ·rw [if_neg c3, if_neg c3, show (240 + r / 262144) % 256 = 240 + r / 262144 by omega, show (128 + r / 4096 % 64) % 256 = 128 + r / 4096 % 64 by omega, show (128 + r / 64 % 64) % 256 = 128 + r / 64 % 64 by omega, show (128 + r % 64) % 256 = 128 + r % 64 by omega]
theorem size_one {r : Int} (hp : pt r) : ((strOfNums (enc1 r)).size : Int) = len r := by
 rw [← ints_length, ints_strOfNums (enc1_byte hp), enc1_length hp]
theorem strOfNums_append (a b : List Int) : strOfNums a ++ strOfNums b = strOfNums (a ++ b) := by
 apply ByteArray.ext
 simp [strOfNums]
def guess (l : List Int) : Int :=
 match l with
 | [] => 0
 | c :: t => t.foldl (fun n b => 64 * n + b % 64) (if l.length = 2 then c % 32 else if l.length = 3 then c % 16 else if l.length = 4 then c % 8 else c)
theorem guess_loop {S : ByteArray} : ∀ (suf pre : List Int) (n : Int), ints S = pre ++ suf → pre.length ≤ 4 → suf.length + pre.length ≤ 4 → 0 ≤ n → n + 1 ≤ 256 * 64 ^ (pre.length - 1) → 1 ≤ pre.length →
  Ev (fun k => toponymref01_guess.l0 k S n (pre.length : Int)) (suf.foldl (fun n b => 64 * n + b % 64) n) := by
 intro suf
 induction suf with
 | nil =>
  intro pre n hS hp hl h0 h1 h2
  have hz : pre.length = S.size := by rw [← ints_length, hS]; simp
  refine Ev.step (fun k => by simp only [toponymref01_guess.l0]; rfl) ?_
  refine ev_neg (by omega) (ev_some ?_)
  have h3 : (64 : Int) ^ (pre.length - 1) = 1 ∨ (64 : Int) ^ (pre.length - 1) = 64 ∨ (64 : Int) ^ (pre.length - 1) = 4096 ∨ (64 : Int) ^ (pre.length - 1) = 262144 := by
   have : pre.length - 1 = 0 ∨ pre.length - 1 = 1 ∨ pre.length - 1 = 2 ∨ pre.length - 1 = 3 := by omega
   rcases this with h | h | h | h <;> rw [h] <;> decide
  exact w32 (by omega) (by omega)
 | cons b suf ih =>
  intro pre n hS hp hl h0 h1 h2
  simp only [List.length_cons] at hl
  have hz : pre.length + (suf.length + 1) = S.size := by rw [← ints_length, hS]; simp
  have hb := ints_range S b (by rw [hS]; simp)
  have h3 : (64 : Int) ^ (pre.length - 1) = 1 ∨ (64 : Int) ^ (pre.length - 1) = 64 ∨ (64 : Int) ^ (pre.length - 1) = 4096 := by
   have : pre.length - 1 = 0 ∨ pre.length - 1 = 1 ∨ pre.length - 1 = 2 := by omega
   rcases this with h | h | h <;> rw [h] <;> decide
  refine Ev.step (fun k => by simp only [toponymref01_guess.l0]; rfl) ?_
  refine ev_pos (by omega) (ev_pos (by omega) ?_)
  rw [bt_mid hS, w64 (x := b) (by omega) (by omega), Int.tmod_eq_emod_of_nonneg hb.1, w64 (x := 64 * n) (by omega) (by omega), w64 (x := 64 * n + b % 64) (by omega) (by omega), w64 (x := (pre.length : Int) + 1) (by omega) (by omega), ← len_snoc pre b]
  refine ih (pre ++ [b]) (64 * n + b % 64) (by simpa using hS) (by simp; omega) (by simp; omega) (by omega) ?_ (by simp)
  have e : (pre ++ [b]).length - 1 = (pre.length - 1) + 1 := by simp; omega
  rw [e, Int.pow_succ]
  omega
theorem guess_ev {S : ByteArray} (h0 : ints S ≠ []) (h4 : S.size ≤ 4) : Ev (fun k => toponymref01_guess.f k S) (guess (ints S)) := by
 unfold toponymref01_guess.f
 cases hS : ints S with
 | nil => exact absurd hS h0
 | cons c t =>
  have hz : t.length + 1 = S.size := by rw [← ints_length, hS]; simp
  have hc := ints_range S c (by rw [hS]; simp)
  have hb0 : bt S 0 = c := bt_mid (pre := []) hS
  rw [hb0, w64 (x := c) (by omega) (by omega)]
  have hj : ∀ n, 0 ≤ n → n ≤ 255 → Ev (fun k => toponymref01_guess.j0 k S n) (t.foldl (fun n b => 64 * n + b % 64) n) := by
   intro n h1 h2
   refine Ev.step (fun k => by simp only [toponymref01_guess.j0]; rfl) ?_
   exact guess_loop t [c] n hS (by simp) (by simp; omega) h1 (by simp; omega) (by simp)
  unfold guess
  simp only [List.length_cons, hz]
  rw [Int.tmod_eq_emod_of_nonneg hc.1, Int.tmod_eq_emod_of_nonneg hc.1, Int.tmod_eq_emod_of_nonneg hc.1]
  refine ev_pos (by omega) ?_
  refine ev_ite (fun h => ?_) (fun h => ?_)
  ·rw [if_pos (by omega)]; exact hj _ (by omega) (by omega)
  rw [if_neg (by omega)]
  refine ev_ite (fun h => ?_) (fun h => ?_)
  ·rw [if_pos (by omega)]; exact hj _ (by omega) (by omega)
  rw [if_neg (by omega)]
  refine ev_ite (fun h => ?_) (fun h => ?_)
  ·rw [if_pos (by omega)]; exact hj _ (by omega) (by omega)
  rw [if_neg (by omega)]
  exact hj _ (by omega) (by omega)
theorem guess_enc {r : Int} (hp : pt r) : guess (enc1 r) = r := by
 unfold pt at hp
 unfold enc1
 repeat' split
 all_goals simp [guess]
 all_goals omega
end Go.Proofs.Ytpihglokjcbjkaa.Pure
