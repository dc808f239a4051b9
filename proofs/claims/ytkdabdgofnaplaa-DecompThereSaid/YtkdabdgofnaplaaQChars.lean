import Derived.Test.YtkdabdgofnaplaaQRange
import Derived.Laws.BitsLemmas
import Derived.Test.YtkdabdgofnaplaaP8
import Derived.Test.YtkdabdgofnaplaaP9
import Derived.Test.YtkdabdgofnaplaaP10
import Derived.Test.YtkdabdgofnaplaaP11
import Derived.Test.YtkdabdgofnaplaaP12
/- chars.Kind, Is: tables of ranges. (The tables' rows: mkchars.py.) -/
namespace Go.Proofs.Ytkdabdgofnaplaa.Pure
open Go.RowKit Go.Proofs.Ytkdabdgofnaplaa.P Go.Proofs.YtkdabdgofnaplaaW.PrintWords Go.Proofs.YtkdabdgofnaplaaW.PrintLast
set_option linter.unusedVariables false
set_option linter.unusedSimpArgs false
set_option maxRecDepth 100000
def cLET : List (Int × Int) := [(65, 90), (97, 122), (170, 170), (181, 181), (186, 186), (192, 214), (216, 246), (248, 383), (700, 700), (902, 902), (904, 906), (908, 908), (910, 929), (931, 974), (1025, 1025), (1040, 1103), (1105, 1105), (1488, 1514), (4352, 4370), (4449, 4469), (4520, 4546), (8486, 8486), (8490, 8491), (8544, 8555), (8560, 8571), (12353, 12436), (19968, 20223), (44032, 55203), (64256, 64261), (65313, 65338), (65345, 65370)]
def cDIG : List (Int × Int) := [(48, 57), (178, 179), (185, 185), (1632, 1641), (8304, 8304), (8308, 8313), (8320, 8329), (65296, 65305)]
def cSIG : List (Int × Int) := [(33, 47), (58, 64), (91, 96), (123, 126), (161, 169), (171, 172), (174, 177), (180, 180), (182, 184), (187, 191), (215, 215), (247, 247), (8208, 8209), (8260, 8260), (8722, 8722), (65281, 65295), (65306, 65312), (65339, 65344), (65371, 65374)]
def cSPA : List (Int × Int) := [(9, 13), (32, 32), (133, 133), (160, 160), (8192, 8202), (8232, 8233), (8239, 8239), (8287, 8287), (12288, 12288)]
def cGON : List (Int × Int) := [(0, 8), (14, 31), (127, 132), (134, 159), (173, 173), (847, 847), (8203, 8207), (8234, 8238), (8288, 8291), (8298, 8303), (65024, 65039), (65279, 65279), (65529, 65532)]
def cBAD : List (Int × Int) := [(832, 833), (57344, 63743), (64976, 65007), (65533, 65535), (131070, 131071), (196606, 196607), (262142, 262143), (327678, 327679), (393214, 393215), (458750, 458751), (524286, 524287), (589822, 589823), (655358, 655359), (720894, 720895), (786430, 786431), (851966, 851967), (917502, 917503), (983038, 983039), (1048574, 1048575), (1114110, 1114111)]
theorem letter_eq (r : Int) : chars_letter.f r = some (inR cLET r) := by
  simp only [chars_letter.f, inR, cLET, List.any_cons, List.any_nil, Bool.or_false, Bool.or_assoc, beq_rng]
theorem sign_eq (r : Int) : chars_sign.f r = some (inR cSIG r) := by
  simp only [chars_sign.f, inR, cSIG, List.any_cons, List.any_nil, Bool.or_false, Bool.or_assoc, beq_rng]
theorem gone_eq (r : Int) : chars_gone.f r = some (inR cGON r) := by
  simp only [chars_gone.f, inR, cGON, List.any_cons, List.any_nil, Bool.or_false, Bool.or_assoc, beq_rng]
theorem digit_eq (r : Int) : chars_digit.f r = some (inR cDIG r) := by
  simp only [chars_digit.f, inR, cDIG, List.any_cons, List.any_nil, Bool.or_false, rng_or, rng_last, eq_or, beq_rng]
theorem space_eq (r : Int) : chars_space.f r = some (inR cSPA r) := by
  simp only [chars_space.f, inR, cSPA, List.any_cons, List.any_nil, Bool.or_false, rng_or, rng_last, eq_or, beq_rng]
theorem low_bits {r : Int} (h0 : 65535 < r) (h1 : r ≤ 1114111) : (Go.bits .and .i32 r 65534 == 65534) = decide (65534 ≤ r % 65536) := by
  obtain ⟨n, rfl⟩ := Int.eq_ofNat_of_zero_le (show 0 ≤ r by omega)
  have e : Go.bits .and .i32 (n : Int) 65534 = ((n &&& 65534 : Nat) : Int) := (bits_nat .i32 31 (by decide) wraps_i32 n 65534 (by omega) (by decide)).1
  have e2 : n &&& 65534 = n % 65536 / 2 * 2 := by
    have h1 : (n &&& 65534) / 2 = n / 2 &&& 32767 := by
      have := Nat.and_div_two_pow (a := n) (b := 65534) (n := 1)
      simpa using this
    have h2 : (n &&& 65534) % 2 = 0 := by
      have := Nat.and_mod_two_pow (a := n) (b := 65534) (n := 1)
      simpa using this
    have h3 : n / 2 &&& 32767 = n / 2 % 32768 := Nat.and_two_pow_sub_one_eq_mod (n / 2) 15
    omega
  rw [e, e2, Bool.eq_iff_iff]
  simp
  omega
theorem bad_tail (r : Int) : (if r > 65535 then (if r ≤ 1114111 then (some ((Go.bits .and .i32 r 65534) == 65534)) else (some false)) else (some false)) = some (inR (cBAD.drop 4) r) := by
  by_cases h0 : 65535 < r
  · by_cases h1 : r ≤ 1114111
    · rw [if_pos h0, if_pos h1, low_bits h0 h1]
      refine congrArg some (Bool.eq_iff_iff.2 ?_)
      · simp only [inR, cBAD, List.drop_succ_cons, List.drop_zero, List.any_cons, List.any_nil, Bool.or_eq_true, Bool.and_eq_true, decide_eq_true_eq, Bool.false_eq_true, or_false]
        omega
    · rw [if_pos h0, if_neg h1]
      refine congrArg some (Eq.symm (Bool.eq_false_iff.2 ?_))
      simp only [inR, cBAD, List.drop_succ_cons, List.drop_zero, List.any_cons, List.any_nil, Bool.or_eq_true, Bool.and_eq_true, decide_eq_true_eq, Bool.false_eq_true, or_false, ne_eq]
      omega
  · rw [if_neg h0]
    refine congrArg some (Eq.symm (Bool.eq_false_iff.2 ?_))
    simp only [inR, cBAD, List.drop_succ_cons, List.drop_zero, List.any_cons, List.any_nil, Bool.or_eq_true, Bool.and_eq_true, decide_eq_true_eq, Bool.false_eq_true, or_false, ne_eq]
    omega
theorem bad_eq (r : Int) : chars_bad.f r = some (inR cBAD r) := by
  have e : inR cBAD r = ((decide (832 ≤ r) && decide (r ≤ 833)) || ((decide (57344 ≤ r) && decide (r ≤ 63743)) || ((decide (64976 ≤ r) && decide (r ≤ 65007)) || ((decide (65533 ≤ r) && decide (r ≤ 65535)) || inR (cBAD.drop 4) r)))) := rfl
  simp only [chars_bad.f, bad_tail, rng_or, e]
def cKind (r : Int) : Int := if inR cLET r = true then 1 else if inR cDIG r = true then 2 else if inR cMAR r = true then 3 else if inR cSIG r = true then 4 else if inR cSPA r = true then 5 else if inR cGON r = true then 6 else if inR cBAD r = true then 7 else 0
theorem kind_eq (r : Int) : chars_Kind.f r = some (cKind r) := by
  simp only [chars_Kind.f, letter_eq, digit_eq, mark_eq, sign_eq, space_eq, gone_eq, bad_eq, Option.bind_some, cKind]
  repeat' (split <;> try rfl)
/-! A number is for tables of ranges what the greatest end is that isn't above it. -/
def lowEnd : Int := -3000000000
theorem mem_skip {a b m : Int} {B : List Int} (h : m ∈ a :: B) : m ∈ a :: b :: B := by
  rcases List.mem_cons.1 h with rfl | h
  · simp
  · simp [h]
theorem rep_of (B : List Int) (hB : ∀ b ∈ B, lowEnd < b) (r : Int) : ∃ m ∈ lowEnd :: B, ∀ b ∈ B, (b ≤ r ↔ b ≤ m) := by
  induction B with
  | nil => exact ⟨lowEnd, by simp, by simp⟩
  | cons b B ih =>
    obtain ⟨m, hm, h⟩ := ih (fun x hx => hB x (by simp [hx]))
    by_cases c : b ≤ r
    · by_cases d : b ≤ m
      · refine ⟨m, mem_skip hm, fun x hx => ?_⟩
        rcases List.mem_cons.1 hx with rfl | hx
        · exact ⟨fun _ => d, fun _ => c⟩
        · exact h x hx
      · refine ⟨b, by simp, fun x hx => ?_⟩
        rcases List.mem_cons.1 hx with rfl | hx
        · exact ⟨fun _ => Int.le_refl _, fun _ => c⟩
        · have := h x hx
          constructor
          · intro e; have := this.1 e; omega
          · intro e; omega
    · have hlm : ¬ b ≤ m := by
        intro d
        rcases List.mem_cons.1 hm with rfl | hm2
        · have := hB b (by simp); omega
        · have := (h m hm2).2 (Int.le_refl _); omega
      refine ⟨m, mem_skip hm, fun x hx => ?_⟩
      rcases List.mem_cons.1 hx with rfl | hx
      · exact ⟨fun e => absurd e c, fun e => absurd e hlm⟩
      · exact h x hx
def okR (B : List Int) (l : List (Int × Int)) : Bool := l.all (fun p => B.contains p.1 && B.contains (p.2 + 1))
theorem inR_congr {B : List Int} {l : List (Int × Int)} {r m : Int} (ho : okR B l = true) (h : ∀ b ∈ B, (b ≤ r ↔ b ≤ m)) : inR l r = inR l m := by
  induction l with
  | nil => rfl
  | cons p l ih =>
    simp only [okR, List.all_cons, Bool.and_eq_true, List.contains_iff_mem] at ho
    have ih := ih (by simpa only [okR, List.contains_iff_mem] using ho.2)
    have h1 := h _ ho.1.1
    have h2 := h _ ho.1.2
    have e1 : decide (p.1 ≤ r) = decide (p.1 ≤ m) := by simp [h1]
    have e2 : decide (r ≤ p.2) = decide (m ≤ p.2) := by
      have : (r ≤ p.2) ↔ (m ≤ p.2) := by omega
      simp [this]
    unfold inR at ih ⊢
    rw [List.any_cons, List.any_cons, ih, e1, e2]
def ENDS : List Int := (cLET ++ cDIG ++ cMAR ++ cSIG ++ cSPA ++ cGON ++ cBAD).flatMap (fun p => [p.1, p.2 + 1])
theorem kind_congr {r m : Int} (h : ∀ b ∈ ENDS, (b ≤ r ↔ b ≤ m)) : cKind r = cKind m := by
  unfold cKind
  rw [inR_congr (B := ENDS) (l := cLET) (by decide +kernel) h, inR_congr (B := ENDS) (l := cDIG) (by decide +kernel) h, inR_congr (B := ENDS) (l := cMAR) (by decide +kernel) h,
    inR_congr (B := ENDS) (l := cSIG) (by decide +kernel) h, inR_congr (B := ENDS) (l := cSPA) (by decide +kernel) h, inR_congr (B := ENDS) (l := cGON) (by decide +kernel) h, inR_congr (B := ENDS) (l := cBAD) (by decide +kernel) h]
theorem ends_low : ∀ b ∈ ENDS, lowEnd < b := by
  have : ENDS.all (fun b => decide (lowEnd < b)) = true := by decide +kernel
  intro b hb
  simpa using List.all_eq_true.1 this b hb
/-! slices.Contains over one kind. -/
theorem index_ev (x : Int) (pre suf : List Int) (hb : pre.length + suf.length < 9000000000000000000) (hp : x ∉ pre) : Ev (fun k => slices_Index_int_int.l0 k (pre ++ suf) x ((pre ++ suf).length : Int) (pre.length : Int)) (if x ∈ suf then ((pre ++ suf).idxOf x : Int) else -1) := by
  induction suf generalizing pre with
  | nil =>
    refine Ev.step (fun k => by simp only [slices_Index_int_int.l0]; rfl) ?_
    exact ev_neg (by simp) (ev_some (by simp))
  | cons a t ih =>
    refine Ev.step (fun k => by simp only [slices_Index_int_int.l0]; rfl) ?_
    refine ev_pos (mid_lt pre a t) (ev_pos (by omega) (ev_pos (mid_lt pre a t) ?_))
    rw [rd_mid]
    simp only [List.length_cons] at hb
    refine ev_ite (fun h => ev_some ?_) (fun h => ?_)
    · subst h
      simp [List.idxOf_append, hp]
    · rw [w64 (by omega) (by omega), mid_snoc pre, ← len_snoc pre a]
      refine ev_eq (ih (pre ++ [a]) (by simp; omega) (by simp [hp, h])) ?_
      simp [h]
theorem contains_ev (l : List Int) (x : Int) (hb : l.length < 9000000000000000000) : Ev (fun k => slices_Contains_int_int.f k l x) (decide (x ∈ l)) := by
  unfold slices_Contains_int_int.f slices_Index_int_int.f
  have := index_ev x [] l (by simpa using hb) (by simp)
  refine Ev.bind this (ev_some ?_)
  by_cases h : x ∈ l <;> simp [h]
theorem is_ev (r : Int) (l : List Int) (hb : l.length < 9000000000000000000) : Ev (fun k => chars_Is.f k r l) (decide (cKind r ∈ l)) := by
  unfold chars_Is.f
  refine ev_bind0 (kind_eq r) ?_
  exact Ev.bind (contains_ev l _ hb) (Ev.now _)
end Go.Proofs.Ytkdabdgofnaplaa.Pure
