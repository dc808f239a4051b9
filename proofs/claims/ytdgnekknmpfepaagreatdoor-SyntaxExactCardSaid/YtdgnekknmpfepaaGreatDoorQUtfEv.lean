import Derived.Test.YtdgnekknmpfepaaGreatDoorQUtf
import Derived.Test.YtdgnekknmpfepaaGreatDoorP1
/- Layer 1 (utf): what the program's functions come to. -/
namespace Go.Proofs.YtdgnekknmpfepaaGreatDoor.Pure
open Go.RowKit Go.Proofs.YtdgnekknmpfepaaGreatDoor.P Go.Proofs.YtdgnekknmpfepaaGreatDoorW.PrintWords Go.Proofs.YtdgnekknmpfepaaGreatDoorW.PrintLast Go.Proofs.YtdgnekknmpfepaaGreatDoorW.PrintMore
open Utf
set_option linter.unusedVariables false
theorem point_ev (r : Int) : utf_Point.f r = some (decide (pt r)) := by
 unfold utf_Point.f pt
 by_cases h0 : r ≥ 0
 ·rw [if_pos h0]
  by_cases h1 : r ≤ 1114111
  ·rw [if_pos h1]
   by_cases h2 : r < 55296
   ·rw [if_pos h2]; exact congrArg some (decide_eq_true (by omega)).symm
   ·rw [if_neg h2]; exact congrArg some (decide_eq_decide.2 (by omega))
  ·rw [if_neg h1]; exact congrArg some (decide_eq_false (by omega)).symm
 ·rw [if_neg h0]; exact congrArg some (decide_eq_false (by omega)).symm
theorem length_ev (r : Int) : utf_Length.f r = some (len r) := by
 unfold utf_Length.f len
 rw [point_ev]
 simp only [Option.bind_some, decide_eq_true_eq]
 repeat' split
 all_goals rfl
theorem dl_end (S : ByteArray) (at_ r n i : Int) (h : n ≤ i) (hw : wrap64 (at_ + n) = at_ + n) : Ev (fun k => utf_Decode.l0 k S at_ r n i) (if len r = n then (r, at_ + n, 0) else (0, 0, 10)) := by
 refine Ev.step (fun k => by simp only [utf_Decode.l0]; rfl) ?_
 refine ev_neg (by omega) ?_
 refine ev_bind0 (length_ev r) ?_
 refine ev_ite (fun h => ev_some ?_) (fun h => ev_some ?_)
 ·rw [if_pos h, hw]
 ·rw [if_neg h]
theorem dl_bad (S : ByteArray) (at_ r n i b : Int) (h : i < n) (h0 : 0 ≤ at_ + i) (h1 : at_ + i < S.size) (hs : S.size ≤ 140737488351232) (hb : bt S (at_ + i) = b) (hn : b / 64 ≠ 2) : Ev (fun k => utf_Decode.l0 k S at_ r n i) (0, 0, 10) := by
 refine Ev.step (fun k => by simp only [utf_Decode.l0]; rfl) ?_
 have hw : wrap64 (at_ + i) = at_ + i := w64 (by omega) (by omega)
 rw [hw, hb]
 exact ev_pos h (ev_pos h0 (ev_pos h1 (ev_neg hn (Ev.now _))))
theorem dl_ok (S : ByteArray) (at_ r n i b : Int) {v : Int × Int × Int} (h : i < n) (h0 : 0 ≤ at_ + i) (h1 : at_ + i < S.size) (hs : S.size ≤ 140737488351232) (hb : bt S (at_ + i) = b) (hn : b / 64 = 2) (hr0 : 0 ≤ r) (hr : r < 33554432) (hi : i ≤ 4) (hi0 : 0 ≤ i)
  (e : Ev (fun k => utf_Decode.l0 k S at_ (r * 64 + b % 64) n (i + 1)) v) : Ev (fun k => utf_Decode.l0 k S at_ r n i) v := by
 refine Ev.step (fun k => by simp only [utf_Decode.l0]; rfl) ?_
 have hw : wrap64 (at_ + i) = at_ + i := w64 (by omega) (by omega)
 have hw2 : wrap64 (i + 1) = i + 1 := w64 (by omega) (by omega)
 have hw3 : wrap32 (r * 64) = r * 64 := w32 (by omega) (by omega)
 rw [hw, hb, hw2, hw3, i32_or6 _ _ (by omega) (by omega) (by omega) (by omega) (by omega)]
 exact ev_pos h (ev_pos h0 (ev_pos h1 (ev_pos hn e)))
def told (at_ : Int) (s : List Int) : Int × Int × Int := match dec s with
 | some (r, n) => (r, at_ + n, 0)
 | none => (0, 0, 10)
theorem decode_ev {S : ByteArray} {pre s : List Int} (hS : ints S = pre ++ s) (h0 : s ≠ []) (hs : S.size ≤ 140737488351232) : Ev (fun k => utf_Decode.f k S (pre.length : Int)) (told pre.length s) := by
 have hb : Byte s := fun x hx => ints_range S x (by rw [hS]; simp [hx])
 have hlen : pre.length + s.length = S.size := by rw [← ints_length, hS]; simp
 unfold utf_Decode.f told
 cases s with
 | nil => exact absurd rfl h0
 | cons c t =>
  have hc := hb c (by simp)
  simp only [List.length_cons] at hlen
  have e0 : bt S (pre.length : Int) = c := bt_mid hS
  rw [e0]
  refine ev_neg (by omega) (ev_neg (by omega) ?_)
  simp only [dec]
  by_cases c1 : c < 128
  ·refine ev_pos c1 (ev_some ?_)
   rw [if_pos c1, w64 (by omega) (by omega)]
  refine ev_neg c1 ?_
  rw [if_neg c1]
  have hsz : wrap64 ((S.size : Int) - pre.length) = (S.size : Int) - pre.length := w64 (by omega) (by omega)
  rw [hsz]
  by_cases c2 : c < 194
  ·rw [if_pos c2]
   exact ev_neg (by omega) (ev_neg (by omega) (ev_neg (by omega) (Ev.now _)))
  rw [if_neg c2]
  by_cases c3 : c < 224
  ·rw [if_pos c3]
   refine ev_pos (by omega) ?_
   match t, hlen, hS, hb with
   | [], hlen, hS, hb => exact ev_pos (by simp at hlen; omega) (Ev.now _)
   | d :: t, hlen, hS, hb =>
    have hd := hb d (by simp)
    simp only [List.length_cons] at hlen
    refine ev_neg (by omega) ?_
    by_cases c4 : d / 64 = 2
    ·refine dl_ok S _ _ 2 1 d (by omega) (by omega) (by omega) hs (bt_at1 hS) c4 (by omega) (by omega) (by omega) (by omega) ?_
     refine ev_eq (dl_end S _ _ 2 (1 + 1) (by omega) (w64 (by omega) (by omega))) ?_
     have hp : pt (c % 32 * 64 + d % 64) := by unfold pt; omega
     have hl : len (c % 32 * 64 + d % 64) = 2 := by unfold len; rw [if_pos hp, if_neg (by omega), if_pos (by omega)]
     simp only [hl, if_true, if_pos c4]
    ·refine ev_eq (dl_bad S _ _ 2 1 d (by omega) (by omega) (by omega) hs (bt_at1 hS) c4) ?_
     simp only [if_neg c4]
  rw [if_neg c3]
  refine ev_neg (by omega) ?_
  by_cases c4 : c < 240
  ·rw [if_pos c4]
   refine ev_pos (by omega) ?_
   match t, hlen, hS, hb with
   | [], hlen, hS, hb => exact ev_pos (by simp at hlen; omega) (Ev.now _)
   | [_], hlen, hS, hb => exact ev_pos (by simp at hlen; omega) (Ev.now _)
   | d :: e :: t, hlen, hS, hb =>
    have hd := hb d (by simp)
    have he := hb e (by simp)
    simp only [List.length_cons] at hlen
    refine ev_neg (by omega) ?_
    by_cases c5 : d / 64 = 2
    ·refine dl_ok S _ _ 3 1 d (by omega) (by omega) (by omega) hs (bt_at1 hS) c5 (by omega) (by omega) (by omega) (by omega) ?_
     by_cases c6 : e / 64 = 2
     ·refine dl_ok S _ _ 3 (1 + 1) e (by omega) (by omega) (by omega) hs (by rw [show ((1 : Int) + 1) = 2 from rfl]; exact bt_at2 hS) c6 (by omega) (by omega) (by omega) (by omega) ?_
      refine ev_eq (dl_end S _ _ 3 _ (by omega) (w64 (by omega) (by omega))) ?_
      have er : (c % 16 * 64 + d % 64) * 64 + e % 64 = c % 16 * 4096 + d % 64 * 64 + e % 64 := by omega
      rw [er]
      simp only
      by_cases c7 : len (c % 16 * 4096 + d % 64 * 64 + e % 64) = 3
      ·rw [if_pos c7, if_pos ⟨⟨c5, c6⟩, c7⟩]
      ·rw [if_neg c7, if_neg (fun h => c7 h.2)]
     ·refine ev_eq (dl_bad S _ _ 3 (1 + 1) e (by omega) (by omega) (by omega) hs (by rw [show ((1 : Int) + 1) = 2 from rfl]; exact bt_at2 hS) c6) ?_
      simp only
      rw [if_neg (fun h => c6 h.1.2)]
    ·refine ev_eq (dl_bad S _ _ 3 1 d (by omega) (by omega) (by omega) hs (bt_at1 hS) c5) ?_
     simp only
     rw [if_neg (fun h => c5 h.1.1)]
  rw [if_neg c4]
  refine ev_neg (by omega) ?_
  by_cases c5 : c < 245
  ·rw [if_pos c5]
   refine ev_pos (by omega) ?_
   match t, hlen, hS, hb with
   | [], hlen, hS, hb => exact ev_pos (by simp at hlen; omega) (Ev.now _)
   | [_], hlen, hS, hb => exact ev_pos (by simp at hlen; omega) (Ev.now _)
   | [_, _], hlen, hS, hb => exact ev_pos (by simp at hlen; omega) (Ev.now _)
   | d :: e :: f :: t, hlen, hS, hb =>
    have hd := hb d (by simp)
    have he := hb e (by simp)
    have hf := hb f (by simp)
    simp only [List.length_cons] at hlen
    refine ev_neg (by omega) ?_
    by_cases c6 : d / 64 = 2
    ·refine dl_ok S _ _ 4 1 d (by omega) (by omega) (by omega) hs (bt_at1 hS) c6 (by omega) (by omega) (by omega) (by omega) ?_
     by_cases c7 : e / 64 = 2
     ·refine dl_ok S _ _ 4 (1 + 1) e (by omega) (by omega) (by omega) hs (by rw [show ((1 : Int) + 1) = 2 from rfl]; exact bt_at2 hS) c7 (by omega) (by omega) (by omega) (by omega) ?_
      by_cases c8 : f / 64 = 2
      ·refine dl_ok S _ _ 4 (1 + 1 + 1) f (by omega) (by omega) (by omega) hs (by rw [show ((1 : Int) + 1 + 1) = 3 from rfl]; exact bt_at3 hS) c8 (by omega) (by omega) (by omega) (by omega) ?_
       refine ev_eq (dl_end S _ _ 4 _ (by omega) (w64 (by omega) (by omega))) ?_
       have er : ((c % 8 * 64 + d % 64) * 64 + e % 64) * 64 + f % 64 = c % 8 * 262144 + d % 64 * 4096 + e % 64 * 64 + f % 64 := by omega
       rw [er]
       simp only
       by_cases c9 : len (c % 8 * 262144 + d % 64 * 4096 + e % 64 * 64 + f % 64) = 4
       ·rw [if_pos c9, if_pos ⟨⟨c6, c7, c8⟩, c9⟩]
       ·rw [if_neg c9, if_neg (fun h => c9 h.2)]
      ·refine ev_eq (dl_bad S _ _ 4 (1 + 1 + 1) f (by omega) (by omega) (by omega) hs (by rw [show ((1 : Int) + 1 + 1) = 3 from rfl]; exact bt_at3 hS) c8) ?_
       simp only
       rw [if_neg (fun h => c8 h.1.2.2)]
     ·refine ev_eq (dl_bad S _ _ 4 (1 + 1) e (by omega) (by omega) (by omega) hs (by rw [show ((1 : Int) + 1) = 2 from rfl]; exact bt_at2 hS) c7) ?_
      simp only
      rw [if_neg (fun h => c7 h.1.2.1)]
    ·refine ev_eq (dl_bad S _ _ 4 1 d (by omega) (by omega) (by omega) hs (bt_at1 hS) c6) ?_
     simp only
     rw [if_neg (fun h => c6 h.1.1)]
  rw [if_neg c5]
  exact ev_neg (by omega) (Ev.now _)
theorem decode_out (S : ByteArray) (at_ : Int) (h : at_ < 0 ∨ (S.size : Int) ≤ at_) : Ev (fun k => utf_Decode.f k S at_) (0, 0, 2) := by
 unfold utf_Decode.f
 refine ev_ite (fun _ => Ev.now _) (fun h2 => ev_pos (by omega) (Ev.now _))
theorem runes_loop {S : ByteArray} (hs : S.size ≤ 140737488351232) : ∀ (f : Nat) (pre s acc : List Int), ints S = pre ++ s → s.length ≤ f → acc.length + s.length < 35184372088832 →
  Ev (fun k => utf_Runes.l0 k S acc (pre.length : Int)) (runes f s pre.length acc) := by
 intro f
 induction f with
 | zero =>
  intro pre s acc hS hf ha
  obtain rfl : s = [] := List.length_eq_zero_iff.1 (by omega)
  have hlen : pre.length = S.size := by rw [← ints_length, hS]; simp
  refine Ev.step (fun k => by simp only [utf_Runes.l0]; rfl) ?_
  exact ev_neg (by omega) (ev_some (by simp [runes, hlen]))
 | succ f ih =>
  intro pre s acc hS hf ha
  have hlen : pre.length + s.length = S.size := by rw [← ints_length, hS]; simp
  have hb : Byte s := fun x hx => ints_range S x (by rw [hS]; simp [hx])
  refine Ev.step (fun k => by simp only [utf_Runes.l0]; rfl) ?_
  by_cases h0 : s = []
  ·subst h0
   simp at hlen
   exact ev_neg (by omega) (ev_some (by simp [runes, hlen]))
  have hpos : 0 < s.length := List.length_pos_iff.2 h0
  refine ev_pos (by omega) (Ev.bind (decode_ev hS h0 hs) ?_)
  rw [runes, if_neg h0]
  unfold told
  cases hd : dec s with
  | none => exact ev_neg (by simp) (Ev.now _)
  | some x =>
   obtain ⟨r, n⟩ := x
   simp only
   have h1 := dec_len hb hd
   refine ev_pos (by simp) (ev_pos (by omega) ?_)
   have e : ((pre ++ s.take n.toNat).length : Int) = (pre.length : Int) + n := by
    rw [List.length_append, List.length_take]; omega
   have := ih (pre ++ s.take n.toNat) (s.drop n.toNat) (acc ++ [r]) (by rw [hS, List.append_assoc, List.take_append_drop]) (by rw [List.length_drop]; omega) (by rw [List.length_drop, List.length_append, List.length_singleton]; omega)
   rw [e] at this
   exact this
theorem runes_ev {S : ByteArray} (hs : S.size < 35184372088832) : Ev (fun k => utf_Runes.f k S) (runes S.size (ints S) 0 []) := by
 unfold utf_Runes.f
 exact runes_loop (by omega) S.size [] (ints S) [] rfl (by rw [ints_length]; omega) (by rw [ints_length]; simpa using hs)
end Go.Proofs.YtdgnekknmpfepaaGreatDoor.Pure
