import Derived.Test.YtdgnekknmpfepaaGreatDoorQUtfEv
import Derived.Test.YtdgnekknmpfepaaGreatDoorP6
/- Layer 1 (utf): what the program's Encode comes to. -/
namespace Go.Proofs.YtdgnekknmpfepaaGreatDoor.Pure
open Go.RowKit Go.Proofs.YtdgnekknmpfepaaGreatDoor.P Go.Proofs.YtdgnekknmpfepaaGreatDoorW.PrintWords Go.Proofs.YtdgnekknmpfepaaGreatDoorW.PrintLast Go.Proofs.YtdgnekknmpfepaaGreatDoorW.PrintMore
open Utf
set_option linter.unusedVariables false
theorem u8_or0 (y : Int) (h0 : 0 ≤ y) (h1 : y < 256) : Go.bits .or .u8 0 y = y := by
 have := bits_join .u8 8 (by decide) wraps_u8 8 0 y (by decide) (by decide) (by decide) h0 (by omega) (by omega)
 omega
theorem en_tail (acc l : List Int) (n i r j : Int) (b : Int) {v : ByteArray × Int} (ha : acc.length < 140737488355328) (hj : 0 ≤ j) (hj2 : j ≤ 3)
  (hb : b = 128 + r / 2 ^ (6 * j).toNat % 64) (e : Ev (fun k => utf_Encode.l1 k (acc ++ [b]) r (j - 1) l n i) v) : Ev (fun k => utf_Encode.l1 k acc r j l n i) v := by
 refine Ev.step (fun k => by simp only [utf_Encode.l1]; rfl) ?_
 have e1 : wrap64 (6 * j) = 6 * j := w64 (by omega) (by omega)
 have e2 : IntKind.u64.wrap (6 * j) = 6 * j := by rw [IntKind.wrap_u64]; omega
 rw [e1, e2, or_and_63]
 have e3 : shr .i32 r (6 * j) = r / 2 ^ (6 * j).toNat := by
  unfold shr
  rw [Nat.min_eq_left (by simp only [IntKind.bits]; omega)]
 rw [e3, ← hb, w64 (by omega) (by omega)]
 exact ev_pos hj (ev_pos (by omega) (ev_pos ha e))
theorem en_end (acc l : List Int) (n i r j : Int) {v : ByteArray × Int} (hj : j < 0) (e : Ev (fun k => utf_Encode.l0 k acc l n (wrap64 (i + 1))) v) : Ev (fun k => utf_Encode.l1 k acc r j l n i) v := by
 refine Ev.step (fun k => by simp only [utf_Encode.l1]; rfl) ?_
 exact ev_neg (by omega) e
theorem encode_step (acc pre : List Int) (r : Int) (suf : List Int) {v : ByteArray × Int} (hp : pt r) (ha : acc.length + 4 < 140737488355328) (hl : pre.length ≤ 9000000000000000000)
  (e : Ev (fun k => utf_Encode.l0 k (acc ++ enc1 r) (pre ++ r :: suf) ((pre ++ r :: suf).length : Int) ((pre ++ [r]).length : Int)) v) :
  Ev (fun k => utf_Encode.l0 k acc (pre ++ r :: suf) ((pre ++ r :: suf).length : Int) (pre.length : Int)) v := by
 refine Ev.step (fun k => by simp only [utf_Encode.l0]; rfl) ?_
 refine ev_pos (mid_lt pre r suf) (ev_pos (by omega) (ev_pos (mid_lt pre r suf) ?_))
 rw [rd_mid]
 refine ev_bind0 (length_ev r) ?_
 have h1 := len_pos hp
 refine ev_neg (by omega) (ev_pos (by omega) (ev_pos (by omega) ?_))
 have hw : wrap64 ((pre.length : Int) + 1) = ((pre ++ [r]).length : Int) := by rw [w64 (by omega) (by omega), len_snoc]
 rw [← hw] at e
 have hpp := hp
 unfold pt at hp
 have s0 : ∀ x : Int, shr .i32 r 0 = r := fun x => by unfold shr; simp
 have s6 : shr .i32 r 6 = r / 64 := by unfold shr; rfl
 have s12 : shr .i32 r 12 = r / 4096 := by unfold shr; rfl
 have s18 : shr .i32 r 18 = r / 262144 := by unfold shr; rfl
 by_cases c1 : r < 128
 ·have hl : len r = 1 := by unfold len; rw [if_pos hpp, if_pos c1]
  have he : enc1 r = [r] := by unfold enc1; rw [if_pos c1]
  rw [hl]
  have b0 : bt (⟨#[0, 0, 192, 224, 240]⟩ : ByteArray) 1 = 0 := by decide +kernel
  have w0 : IntKind.u64.wrap (wrap64 (6 * wrap64 (1 - 1))) = 0 := by decide +kernel
  have w1 : wrap64 (1 - 2) = -1 := by decide +kernel
  rw [b0, w0, w1, s0 0, u8_or0 _ (by omega) (by omega), show r % 256 = r by omega]
  refine ev_pos (by omega) (ev_pos (by omega) ?_)
  exact en_end _ _ _ _ _ _ (by omega) (by rw [he] at e; exact e)
 by_cases c2 : r < 2048
 ·have hl : len r = 2 := by unfold len; rw [if_pos hpp, if_neg c1, if_pos c2]
  have he : enc1 r = [192 + r / 64, 128 + r % 64] := by unfold enc1; rw [if_neg c1, if_pos c2]
  rw [hl]
  have b0 : bt (⟨#[0, 0, 192, 224, 240]⟩ : ByteArray) 2 = 192 := by decide +kernel
  have w0 : IntKind.u64.wrap (wrap64 (6 * wrap64 (2 - 1))) = 6 := by decide +kernel
  have w1 : wrap64 (2 - 2) = 0 := by decide +kernel
  rw [b0, w0, w1, s6, show r / 64 % 256 = r / 64 by omega, u8_or192 _ (by omega) (by omega)]
  refine ev_pos (by omega) (ev_pos (by omega) ?_)
  refine en_tail _ _ _ _ _ 0 (128 + r % 64) (by simp; omega) (by omega) (by omega) (by simp) ?_
  exact en_end _ _ _ _ _ _ (by omega) (by rw [he] at e; simpa using e)
 by_cases c3 : r < 65536
 ·have hl : len r = 3 := by unfold len; rw [if_pos hpp, if_neg c1, if_neg c2, if_pos c3]
  have he : enc1 r = [224 + r / 4096, 128 + r / 64 % 64, 128 + r % 64] := by unfold enc1; rw [if_neg c1, if_neg c2, if_pos c3]
  rw [hl]
  have b0 : bt (⟨#[0, 0, 192, 224, 240]⟩ : ByteArray) 3 = 224 := by decide +kernel
  have w0 : IntKind.u64.wrap (wrap64 (6 * wrap64 (3 - 1))) = 12 := by decide +kernel
  have w1 : wrap64 (3 - 2) = 1 := by decide +kernel
  rw [b0, w0, w1, s12, show r / 4096 % 256 = r / 4096 by omega, u8_or224 _ (by omega) (by omega)]
  refine ev_pos (by omega) (ev_pos (by omega) ?_)
  refine en_tail _ _ _ _ _ 1 (128 + r / 64 % 64) (by simp; omega) (by omega) (by omega) rfl ?_
  refine en_tail _ _ _ _ _ (1 - 1) (128 + r % 64) (by simp; omega) (by omega) (by omega) (by simp) ?_
  exact en_end _ _ _ _ _ _ (by omega) (by rw [he] at e; simpa using e)
 ·have hl : len r = 4 := by unfold len; rw [if_pos hpp, if_neg c1, if_neg c2, if_neg c3]
  have he : enc1 r = [240 + r / 262144, 128 + r / 4096 % 64, 128 + r / 64 % 64, 128 + r % 64] := by unfold enc1; rw [if_neg c1, if_neg c2, if_neg c3]
  rw [hl]
  have b0 : bt (⟨#[0, 0, 192, 224, 240]⟩ : ByteArray) 4 = 240 := by decide +kernel
  have w0 : IntKind.u64.wrap (wrap64 (6 * wrap64 (4 - 1))) = 18 := by decide +kernel
  have w1 : wrap64 (4 - 2) = 2 := by decide +kernel
  rw [b0, w0, w1, s18, show r / 262144 % 256 = r / 262144 by omega, u8_or240 _ (by omega) (by omega)]
  refine ev_pos (by omega) (ev_pos (by omega) ?_)
  refine en_tail _ _ _ _ _ 2 (128 + r / 4096 % 64) (by simp; omega) (by omega) (by omega) rfl ?_
  refine en_tail _ _ _ _ _ (2 - 1) (128 + r / 64 % 64) (by simp; omega) (by omega) (by omega) rfl ?_
  refine en_tail _ _ _ _ _ (2 - 1 - 1) (128 + r % 64) (by simp; omega) (by omega) (by omega) (by simp) ?_
  exact en_end _ _ _ _ _ _ (by omega) (by rw [he] at e; simpa using e)
theorem enc1_len4 (r : Int) : (enc1 r).length ≤ 4 := by
 unfold enc1
 repeat' split
 all_goals simp
def laid (l : List Int) : ByteArray × Int := if (∀ r ∈ l, pt r) then (strOfNums (enc l), 0) else (⟨#[]⟩, 10)
theorem encode_loop (pre suf acc : List Int) (hl : pre.length + suf.length ≤ 1000000000) (ha : acc.length ≤ 4 * pre.length) :
  Ev (fun k => utf_Encode.l0 k acc (pre ++ suf) ((pre ++ suf).length : Int) (pre.length : Int)) (if (∀ r ∈ suf, pt r) then (strOfNums (acc ++ enc suf), 0) else (⟨#[]⟩, 10)) := by
 induction suf generalizing pre acc with
 | nil =>
  refine Ev.step (fun k => by simp only [utf_Encode.l0]; rfl) ?_
  exact ev_neg (by simp) (ev_some (by simp [enc]))
 | cons r suf ih =>
  simp only [List.length_cons] at hl
  by_cases hp : pt r
  ·refine encode_step acc pre r suf hp (by omega) (by omega) ?_
   have h4 := enc1_len4 r
   have := ih (pre ++ [r]) (acc ++ enc1 r) (by simp; omega) (by simp; omega)
   rw [← mid_snoc] at this
   refine ev_eq this ?_
   simp [enc, hp, List.append_assoc]
  ·refine Ev.step (fun k => by simp only [utf_Encode.l0]; rfl) ?_
   refine ev_pos (mid_lt pre r suf) (ev_pos (by omega) (ev_pos (mid_lt pre r suf) ?_))
   rw [rd_mid]
   have hz : len r = 0 := by unfold len; rw [if_neg hp]
   refine ev_bind0 (length_ev r) (ev_pos hz (ev_some ?_))
   rw [if_neg (fun h => hp (h r (by simp)))]
theorem encode_ev (l : List Int) (hl : l.length ≤ 1000000000) : Ev (fun k => utf_Encode.f k l) (laid l) := by
 unfold utf_Encode.f
 refine ev_eq (encode_loop [] l [] (by simpa using hl) (by simp)) ?_
 simp [laid]
theorem ints_laid {l : List Int} (h : ∀ r ∈ l, pt r) : ints (strOfNums (enc l)) = enc l := ints_strOfNums (enc_byte h)
end Go.Proofs.YtdgnekknmpfepaaGreatDoor.Pure
