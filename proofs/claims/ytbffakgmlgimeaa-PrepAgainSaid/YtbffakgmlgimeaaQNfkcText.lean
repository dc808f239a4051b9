import Derived.Test.YtbffakgmlgimeaaQNfkc
import Derived.Test.YtbffakgmlgimeaaQUtfEnc
import Derived.Test.YtbffakgmlgimeaaP7
import Derived.Test.YtbffakgmlgimeaaP12
/- nfkc.Text: what it tells; its bytes. -/
namespace Go.Proofs.Ytbffakgmlgimeaa.Pure
open Go.RowKit Go.Proofs.Ytbffakgmlgimeaa.P Go.Proofs.YtbffakgmlgimeaaW.PrintWords Go.Proofs.YtbffakgmlgimeaaW.PrintLast
open Hangul Utf
set_option linter.unusedVariables false
set_option linter.unusedSimpArgs false
set_option maxRecDepth 100000
def nText (b : Bool) (S : ByteArray) : ByteArray × Int := if (runes S.size (ints S) 0 []).2.2 = 0 then laid (nRun b (runes S.size (ints S) 0 []).1) else (⟨#[]⟩, (runes S.size (ints S) 0 []).2.2)
theorem read_form (S : ByteArray) : (∃ l, (∀ r ∈ l, pt r) ∧ ints S = enc l ∧ l.length ≤ S.size ∧ (runes S.size (ints S) 0 []).1 = l ∧ (runes S.size (ints S) 0 []).2.2 = 0) ∨ (runes S.size (ints S) 0 []).2.2 = 10 := by
 have hb : Byte (ints S) := ints_range S
 rcases runes_form (f := S.size) 0 [] hb (by rw [ints_length]; omega) with ⟨l, g1, g2, g3⟩ | ⟨l, q, g1, g2, g3, g4, g5⟩
 ·refine .inl ⟨l, g1, g2, ?_, by rw [g3]; rfl, by rw [g3]⟩
  have := runes_few l g1
  rw [← g2, ints_length] at this
  exact this
 ·exact .inr (by rw [g5])
theorem ntext_ev (b : Bool) (S : ByteArray) (hs : S.size < 150000) : Ev (fun k => nfkc_Text.f k b S) (nText b S) := by
 unfold nfkc_Text.f nText
 refine Ev.bind (runes_ev (by omega)) ?_
 rcases read_form S with ⟨l, g1, g2, g3, g4, g5⟩ | g
 ·rw [if_pos g5, g4]
  refine ev_pos g5 ?_
  have hm := nRun_length b l
  exact Ev.bind (nrunes_ev b l (by omega)) (Ev.bind (encode_ev _ (by omega)) (ev_some rfl))
 ·rw [if_neg (by rw [g]; omega)]
  exact ev_neg (by rw [g]; omega) (Ev.now _)
def bts (l : List Int) : Nat := (enc l).length
theorem bts_cons (r : Int) (l : List Int) : bts (r :: l) = (enc1 r).length + bts l := by simp [bts, enc]
theorem bts_append (l m : List Int) : bts (l ++ m) = bts l + bts m := by simp [bts, enc]
theorem bts_nil : bts [] = 0 := rfl
theorem bts_rev (l : List Int) : bts l.reverse = bts l := by
 induction l with
 | nil => rfl
 | cons a t ih => rw [List.reverse_cons, bts_append, bts_cons, bts_cons, ih, bts_nil]; omega
theorem insR_bts (c : Int → Int) (r : Int) (l : List Int) : bts (insR c r l) = (enc1 r).length + bts l := by
 induction l with
 | nil => rw [insR, bts_cons]
 | cons a t ih =>
  rw [insR_cons]
  split
  ·rw [bts_cons, ih, bts_cons]; omega
  ·rw [bts_cons]
theorem ordR_bts (c : Int → Int) (l acc : List Int) : bts (ordR c l acc) = bts l + bts acc := by
 induction l generalizing acc with
 | nil => simp [ordR, bts_nil]
 | cons a t ih => rw [ordR_cons, ih, insR_bts, bts_cons]; omega
theorem aOrd_bts (c : Int → Int) (l : List Int) : bts (aOrd c l) = bts l := by
 unfold aOrd
 rw [bts_rev, ordR_bts, bts_nil]; omega
theorem enc1_pos (r : Int) : 1 ≤ (enc1 r).length := by
 unfold enc1
 repeat' split
 all_goals simp
theorem enc1_three {r : Int} (h : 2048 ≤ r) : 3 ≤ (enc1 r).length := by
 unfold enc1
 rw [if_neg (by omega), if_neg (by omega)]
 split <;> simp
theorem enc1_le3 {r : Int} (h : r < 65536) : (enc1 r).length ≤ 3 := by
 unfold enc1
 repeat' split
 all_goals first | (simp; done) | omega
theorem part_high {h : Int} (e : hPart h = 1 ∨ hPart h = 4) : 2048 ≤ h := by
 unfold hPart at e
 repeat' split at e
 all_goals omega
theorem tri_bts : TRIPLES.all (fun t => decide ((enc1 t.2.2).length ≤ (enc1 t.1).length + (enc1 t.2.1).length)) = true := by decide +kernel
theorem cPair_bts {h r x : Int} (e : cPair h r = some x) : (enc1 x).length ≤ (enc1 h).length + (enc1 r).length := by
 rcases cPair_join e with g | ⟨g1, g2, g3, g4⟩
 ·have h4 := enc1_len4 x
  have h1 := enc1_pos r
  have h3 : 3 ≤ (enc1 h).length := by
   refine enc1_three (part_high ?_)
   unfold hJoin at g
   repeat' split at g
   ·rename_i q; exact Or.inl q.1
   ·rename_i q; exact Or.inr q.1
   ·cases g
  omega
 ·have := List.all_eq_true.1 tri_bts _ (tri g3 g4).2
  simpa using this
theorem cStep_bts (s : CSt) (r : Int) : bts (cFlat (cStep dCls cPair s r)) ≤ bts (cFlat s) + (enc1 r).length := by
 obtain ⟨p, _ | ⟨h, U⟩⟩ := s
 ·rw [cStep_none]
  split
  ·simp only [cFlat, bts_append, bts_cons, bts_nil]; omega
  ·simp only [cFlat, bts_append, bts_cons, bts_nil]; omega
 ·cases e : cTry dCls cPair h U r with
  | some x =>
   rw [cStep_yes e]
   unfold cTry at e
   split at e
   ·have := cPair_bts e
    simp only [cFlat, bts_append, bts_cons]; omega
   ·cases e
  | none =>
   rw [cStep_no e]
   split
   ·simp only [cFlat, bts_append, bts_cons, bts_nil]; omega
   ·simp only [cFlat, bts_append, bts_cons, bts_nil]; omega
theorem cRun_bts (l : List Int) (s : CSt) : bts (cFlat (cRun dCls cPair l s)) ≤ bts (cFlat s) + bts l := by
 induction l generalizing s with
 | nil => simp [cRun, bts_nil]
 | cons a t ih =>
  have h1 := ih (cStep dCls cPair s a)
  have h2 := cStep_bts s a
  rw [cRun_cons, bts_cons]
  omega
theorem dCAll_bts (l : List Int) : bts (dCAll l) ≤ bts l := by
 have h1 := cRun_bts l ([], none)
 have h2 : bts (cFlat (([], none) : CSt)) = 0 := rfl
 show bts (cFlat (cRun dCls cPair l ([], none))) ≤ _
 omega
theorem dOne_bts_t : dLIST.all (fun r => decide (bts ((decomp_One.f 60 r true).getD []) ≤ 3 * (enc1 r).length)) = true := by decide +kernel
theorem dOne_bts_f : dLIST.all (fun r => decide (bts ((decomp_One.f 60 r false).getD []) ≤ 3 * (enc1 r).length)) = true := by decide +kernel
theorem dOne_bts (b : Bool) (r : Int) : bts (dOne b r) ≤ 3 * (enc1 r).length := by
 unfold dOne
 by_cases c : 44032 ≤ r ∧ r ≤ 55203
 ·rw [if_pos c]
  have h3 := enc1_three (show 2048 ≤ r by omega)
  have e1 : (enc1 (4352 + (r - 44032) / 28 / 21)).length ≤ 3 := enc1_le3 (by omega)
  have e2 : (enc1 (4449 + (r - 44032) / 28 % 21)).length ≤ 3 := enc1_le3 (by omega)
  have e3 : (enc1 (4519 + (r - 44032) % 28)).length ≤ 3 := enc1_le3 (by omega)
  unfold hParts
  split
  ·simp only [bts_cons, bts_nil]; omega
  ·simp only [bts_cons, bts_nil]; omega
 rw [if_neg c]
 by_cases d : inR dR r = true
 ·rw [if_pos d]
  cases b
  ·exact of_decide_eq_true (List.all_eq_true.1 dOne_bts_f r (mem_dLIST d))
  ·exact of_decide_eq_true (List.all_eq_true.1 dOne_bts_t r (mem_dLIST d))
 ·rw [if_neg d, bts_cons, bts_nil]; omega
theorem dAll_bts (b : Bool) (l : List Int) : bts (dAll b l) ≤ 3 * bts l := by
 induction l with
 | nil => simp [dAll, bts_nil]
 | cons a t ih =>
  rw [dAll_cons, bts_append, bts_cons]
  have : bts (dStep b a) ≤ 3 * (enc1 a).length := by
   unfold dStep
   split
   ·rw [bts_cons, bts_nil]; omega
   split
   ·rw [bts_cons, bts_nil]; omega
   ·exact dOne_bts b a
  omega
theorem nRun_bts (b : Bool) (l : List Int) : bts (nRun b l) ≤ 3 * bts l := by
 have h1 := dCAll_bts (aOrd dCls (dAll b l))
 have h2 := aOrd_bts dCls (dAll b l)
 have h3 := dAll_bts b l
 unfold nRun
 omega
theorem nText_short (b : Bool) (S : ByteArray) : ((nText b S).2 = 10 ∧ (nText b S).1 = ⟨#[]⟩) ∨ ((nText b S).2 = 0 ∧ (nText b S).1.size ≤ 3 * S.size) := by
 unfold nText
 rcases read_form S with ⟨l, g1, g2, g3, g4, g5⟩ | g
 ·rw [if_pos g5, g4]
  unfold laid
  split
  ·rename_i hp
   refine .inr ⟨rfl, ?_⟩
   have h1 := nRun_bts b l
   have h2 := congrArg List.length (ints_laid hp)
   rw [ints_length] at h2
   have h3 := congrArg List.length g2
   rw [ints_length] at h3
   unfold bts at h1
   show (strOfNums (enc (nRun b l))).size ≤ _
   omega
  ·exact .inl ⟨rfl, rfl⟩
 ·rw [if_neg (by rw [g]; omega)]
  exact .inl ⟨g, rfl⟩
end Go.Proofs.Ytbffakgmlgimeaa.Pure
