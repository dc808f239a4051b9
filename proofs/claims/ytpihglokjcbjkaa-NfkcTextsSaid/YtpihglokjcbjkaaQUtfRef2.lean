import Derived.Test.YtpihglokjcbjkaaQUtfRef
import Derived.Test.YtpihglokjcbjkaaT12
/- Layer 1 (utf): what the reference's Decode and Runes come to. -/
namespace Go.Proofs.Ytpihglokjcbjkaa.Pure
open Go.RowKit Go.Proofs.Ytpihglokjcbjkaa.P Go.Proofs.YtpihglokjcbjkaaW.PrintWords Go.Proofs.YtpihglokjcbjkaaW.PrintLast Go.Proofs.YtpihglokjcbjkaaW.PrintMore
open Utf
set_option linter.unusedVariables false
theorem guess_range {l : List Int} (hb : Byte l) (h : l.length ≤ 4) : 0 ≤ guess l ∧ guess l ≤ 100000000 := by
 match l, hb, h with
 | [], _, _ => simp [guess]
 | [c], hb, _ => have := hb c (by simp); simp [guess]; omega
 | [c, d], hb, _ => have := hb c (by simp); have := hb d (by simp); simp [guess]; omega
 | [c, d, e], hb, _ => have := hb c (by simp); have := hb d (by simp); have := hb e (by simp); simp [guess]; omega
 | [c, d, e, f], hb, _ => have := hb c (by simp); have := hb d (by simp); have := hb e (by simp); have := hb f (by simp); simp [guess]; omega
 | _ :: _ :: _ :: _ :: _ :: _, _, h => exact absurd h (by simp)
theorem cand_dec {s : List Int} {m : Nat} (hm : m ≤ s.length) (hp : pt (guess (s.take m))) (he : enc1 (guess (s.take m)) = s.take m) : dec s = some (guess (s.take m), (m : Int)) := by
 have h1 := dec_enc hp (s.drop m)
 have h2 := enc1_length hp
 rw [he, List.length_take, Nat.min_eq_left hm] at h2
 rw [he, List.take_append_drop, ← h2] at h1
 exact h1
theorem rdecode_loop {S : ByteArray} {pre s : List Int} (hS : ints S = pre ++ s) (hs : S.size ≤ 140737488351232) : ∀ (d n : Nat), n + d = 5 → 1 ≤ n → (∀ r l, dec s = some (r, l) → (n : Int) ≤ l) →
  Ev (fun k => toponymref01_Decode.l0 k S (pre.length : Int) (n : Int)) (told pre.length s) := by
 have hb : Byte s := fun x hx => ints_range S x (by rw [hS]; simp [hx])
 have hlen : pre.length + s.length = S.size := by rw [← ints_length, hS]; simp
 have hbad : ∀ n : Nat, (∀ r l, dec s = some (r, l) → (n : Int) ≤ l) → (s.length < n ∨ n = 5) → told pre.length s = (0, 0, 10) := by
  intro n hn h
  unfold told
  cases hd : dec s with
  | none => rfl
  | some x =>
   obtain ⟨r, l⟩ := x
   have h1 := hn r l hd
   have h2 := dec_len hb hd
   omega
 intro d
 induction d with
 | zero =>
  intro n hn h1 h2
  refine Ev.step (fun k => by simp only [toponymref01_Decode.l0]; rfl) ?_
  refine ev_neg (by omega) ?_
  refine Ev.step (fun k => by simp only [toponymref01_Decode.j2]; rfl) ?_
  exact ev_neg (by simp) (ev_some (hbad n h2 (.inr (by omega))).symm)
 | succ d ih =>
  intro n hn h1 h2
  refine Ev.step (fun k => by simp only [toponymref01_Decode.l0]; rfl) ?_
  refine ev_pos (by omega) ?_
  have hw : wrap64 ((pre.length : Int) + n) = (pre.length : Int) + n := w64 (by omega) (by omega)
  rw [hw]
  refine Ev.step (fun k => by simp only [toponymref01_Decode.j2]; rfl) ?_
  rw [hw]
  by_cases hle : n ≤ s.length
  ·refine ev_pos (decide_eq_true (by omega)) (ev_pos (by omega) (ev_pos (by omega) (ev_pos (by omega) ?_)))
   have e1 : ((pre.length : Int) + n).toNat = pre.length + n := by omega
   rw [Int.toNat_natCast, e1]
   have hx : ints (S.extract pre.length (pre.length + n)) = s.take n := by
    rw [ints_extract, hS, List.drop_append_of_le_length (Nat.le_refl _), List.drop_of_length_le (Nat.le_refl _), List.nil_append]
    congr 1
    omega
   have hl : (s.take n).length = n := by rw [List.length_take]; omega
   have hg := guess_ev (S := S.extract pre.length (pre.length + n)) (by rw [hx]; intro h0; rw [h0] at hl; simp at hl; omega) (by rw [← ints_length, hx]; omega)
   rw [hx] at hg
   have hbt : Byte (s.take n) := fun x h => hb x (List.mem_of_mem_take h)
   have hr := guess_range hbt (by omega)
   have hw2 : wrap64 ((n : Int) + 1) = ((n + 1 : Nat) : Int) := by rw [w64 (by omega) (by omega)]; omega
   have hgo : ¬ (pt (guess (s.take n)) ∧ enc1 (guess (s.take n)) = s.take n) → Ev (fun k => toponymref01_Decode.l0 k S (pre.length : Int) (wrap64 ((n : Int) + 1))) (told pre.length s) := by
    intro hno
    rw [hw2]
    refine ih (n + 1) (by omega) (by omega) (fun r l hd => ?_)
    have h3 := h2 r l hd
    by_cases h4 : l = n
    ·exfalso
     obtain ⟨hp, hl2, t, ht⟩ := dec_some hb hd
     have h5 := enc1_length hp
     have h6 : s.take n = enc1 r := by
      rw [ht, List.take_append_of_le_length (by omega), List.take_of_length_le (by omega)]
     exact hno (by rw [h6, guess_enc hp]; exact ⟨hp, rfl⟩)
    ·omega
   refine Ev.bind hg ?_
   refine ev_bind0 (rpoint_ev _ ⟨by omega, by omega⟩) ?_
   by_cases hp : pt (guess (s.take n))
   ·refine ev_pos (by simpa using hp) (ev_bind0 (uone_ev hp) ?_)
    by_cases heq : enc1 (guess (s.take n)) = s.take n
    ·refine ev_pos ?_ (ev_some ?_)
     ·rw [toList_iff, ints_strOfNums (enc1_byte hp), hx, heq]
     ·unfold told
      rw [cand_dec hle hp heq]
    ·refine ev_neg ?_ (hgo (fun h => heq h.2))
     rw [toList_iff, ints_strOfNums (enc1_byte hp), hx]
     exact heq
   ·exact ev_neg (by simpa using hp) (hgo (fun h => hp h.1))
  ·exact ev_neg (by simp; omega) (ev_some (hbad n h2 (.inl (by omega))).symm)
theorem rdecode_ev {S : ByteArray} {pre s : List Int} (hS : ints S = pre ++ s) (h0 : s ≠ []) (hs : S.size ≤ 140737488351232) : Ev (fun k => toponymref01_Decode.f k S (pre.length : Int)) (told pre.length s) := by
 have hb : Byte s := fun x hx => ints_range S x (by rw [hS]; simp [hx])
 have hlen : pre.length + s.length = S.size := by rw [← ints_length, hS]; simp
 have hpos : 0 < s.length := List.length_pos_iff.2 h0
 unfold toponymref01_Decode.f
 refine ev_neg (by omega) ?_
 refine Ev.step (fun k => by simp only [toponymref01_Decode.j0]; rfl) ?_
 refine ev_neg (by simp; omega) ?_
 exact rdecode_loop hS hs 4 1 rfl (Nat.le_refl _) (fun r l hd => (dec_len hb hd).1)
theorem rdecode_out (S : ByteArray) (at_ : Int) (h : at_ < 0 ∨ (S.size : Int) ≤ at_) : Ev (fun k => toponymref01_Decode.f k S at_) (0, 0, 2) := by
 unfold toponymref01_Decode.f
 refine ev_ite (fun h1 => ?_) (fun h1 => ?_)
 ·refine Ev.step (fun k => by simp only [toponymref01_Decode.j0]; rfl) ?_
  exact ev_pos (by simp) (Ev.now _)
 ·refine Ev.step (fun k => by simp only [toponymref01_Decode.j0]; rfl) ?_
  exact ev_pos (by simp; omega) (Ev.now _)
theorem rrunes_loop {S : ByteArray} (hs : S.size ≤ 140737488351232) : ∀ (f : Nat) (pre s acc : List Int), ints S = pre ++ s → s.length ≤ f → acc.length + s.length < 35184372088832 →
  Ev (fun k => toponymref01_Runes.l0 k S acc (pre.length : Int)) (runes f s pre.length acc) := by
 intro f
 induction f with
 | zero =>
  intro pre s acc hS hf ha
  obtain rfl : s = [] := List.length_eq_zero_iff.1 (by omega)
  have hlen : pre.length = S.size := by rw [← ints_length, hS]; simp
  refine Ev.step (fun k => by simp only [toponymref01_Runes.l0]; rfl) ?_
  exact ev_neg (by omega) (ev_some (by simp [runes]))
 | succ f ih =>
  intro pre s acc hS hf ha
  have hlen : pre.length + s.length = S.size := by rw [← ints_length, hS]; simp
  have hb : Byte s := fun x hx => ints_range S x (by rw [hS]; simp [hx])
  refine Ev.step (fun k => by simp only [toponymref01_Runes.l0]; rfl) ?_
  by_cases h0 : s = []
  ·subst h0
   simp at hlen
   exact ev_neg (by omega) (ev_some (by simp [runes]))
  have hpos : 0 < s.length := List.length_pos_iff.2 h0
  refine ev_pos (by omega) (Ev.bind (rdecode_ev hS h0 hs) ?_)
  rw [runes, if_neg h0]
  unfold told
  cases hd : dec s with
  | none => exact ev_neg (by simp) (Ev.now _)
  | some x =>
   obtain ⟨r, n⟩ := x
   simp only
   have h1 := dec_len hb hd
   refine ev_pos (by simp) (ev_pos (by omega) ?_)
   have e : ((pre ++ s.take n.toNat).length : Int) = (pre.length : Int) + n := by
    rw [List.length_append, List.length_take]; omega
   have := ih (pre ++ s.take n.toNat) (s.drop n.toNat) (acc ++ [r]) (by rw [hS, List.append_assoc, List.take_append_drop]) (by rw [List.length_drop]; omega) (by rw [List.length_drop, List.length_append, List.length_singleton]; omega)
   rw [e] at this
   exact this
theorem rrunes_ev {S : ByteArray} (hs : S.size < 35184372088832) : Ev (fun k => toponymref01_Runes.f k S) (runes S.size (ints S) 0 []) := by
 unfold toponymref01_Runes.f
 exact rrunes_loop (by omega) S.size [] (ints S) [] rfl (by rw [ints_length]; omega) (by rw [ints_length]; simpa using hs)
end Go.Proofs.Ytpihglokjcbjkaa.Pure
