import Derived.Test.YtdgnekknmpfepaaGreatDoorQBytes
/- Layer 1 (utf), the plain law: code points and their bytes, over lists of numbers. -/
namespace Go.Proofs.YtdgnekknmpfepaaGreatDoor.Pure
set_option linter.unusedVariables false
namespace Utf
def pt (r : Int) : Prop := (0 ≤ r ∧ r ≤ 1114111) ∧ ¬ (55296 ≤ r ∧ r ≤ 57343)
instance (r : Int) : Decidable (pt r) := by unfold pt; infer_instance
def len (r : Int) : Int := if pt r then (if r < 128 then 1 else if r < 2048 then 2 else if r < 65536 then 3 else 4) else 0
def enc1 (r : Int) : List Int :=
 if r < 128 then [r] else if r < 2048 then [192 + r / 64, 128 + r % 64]
 else if r < 65536 then [224 + r / 4096, 128 + r / 64 % 64, 128 + r % 64]
 else [240 + r / 262144, 128 + r / 4096 % 64, 128 + r / 64 % 64, 128 + r % 64]
def enc (l : List Int) : List Int := l.flatMap enc1
def dec (s : List Int) : Option (Int × Int) :=
 match s with
 | [] => none
 | c :: t =>
  if c < 128 then some (c, 1) else if c < 194 then none
  else if c < 224 then
   (match t with
    | d :: _ => if d / 64 = 2 then some (c % 32 * 64 + d % 64, 2) else none
    | _ => none)
  else if c < 240 then
   (match t with
    | d :: e :: _ => if (d / 64 = 2 ∧ e / 64 = 2) ∧ len (c % 16 * 4096 + d % 64 * 64 + e % 64) = 3 then some (c % 16 * 4096 + d % 64 * 64 + e % 64, 3) else none
    | _ => none)
  else if c < 245 then
   (match t with
    | d :: e :: f :: _ => if (d / 64 = 2 ∧ e / 64 = 2 ∧ f / 64 = 2) ∧ len (c % 8 * 262144 + d % 64 * 4096 + e % 64 * 64 + f % 64) = 4 then some (c % 8 * 262144 + d % 64 * 4096 + e % 64 * 64 + f % 64, 4) else none
    | _ => none)
  else none
def Byte (s : List Int) : Prop := ∀ x ∈ s, 0 ≤ x ∧ x ≤ 255
theorem len_pos {r : Int} (h : pt r) : 1 ≤ len r ∧ len r ≤ 4 := by
 unfold len
 rw [if_pos h]
 repeat' split
 all_goals omega
theorem enc1_length {r : Int} (h : pt r) : ((enc1 r).length : Int) = len r := by
 unfold enc1 len
 rw [if_pos h]
 repeat' split
 all_goals rfl
theorem enc1_byte {r : Int} (h : pt r) : Byte (enc1 r) := by
 unfold pt at h
 unfold enc1 Byte
 repeat' split
 all_goals simp
 all_goals omega
theorem enc_byte {l : List Int} (h : ∀ r ∈ l, pt r) : Byte (enc l) := by
 intro x hx
 obtain ⟨r, hr, hx⟩ := List.mem_flatMap.1 hx
 exact enc1_byte (h r hr) x hx
theorem dec_enc {r : Int} (h : pt r) (s : List Int) : dec (enc1 r ++ s) = some (r, len r) := by
 have hp := h
 unfold pt at h
 unfold enc1
 by_cases h1 : r < 128
 ·rw [if_pos h1]
  simp only [List.cons_append, List.nil_append, dec]
  rw [if_pos h1]
  unfold len
  rw [if_pos hp, if_pos h1]
 rw [if_neg h1]
 by_cases h2 : r < 2048
 ·rw [if_pos h2]
  simp only [List.cons_append, List.nil_append, dec]
  rw [if_neg (by omega), if_neg (by omega), if_pos (by omega), if_pos (by omega)]
  unfold len
  rw [if_pos hp, if_neg h1, if_pos h2]
  simp only [Option.some.injEq, Prod.mk.injEq, and_true]
  omega
 rw [if_neg h2]
 have el : ∀ x : Int, x = r → len x = len r := fun x e => by rw [e]
 by_cases h3 : r < 65536
 ·rw [if_pos h3]
  simp only [List.cons_append, List.nil_append, dec]
  have e : (224 + r / 4096) % 16 * 4096 + (128 + r / 64 % 64) % 64 * 64 + (128 + r % 64) % 64 = r := by omega
  have l3 : len r = 3 := by unfold len; rw [if_pos hp, if_neg h1, if_neg h2, if_pos h3]
  rw [if_neg (by omega), if_neg (by omega), if_neg (by omega), if_pos (by omega), if_pos ⟨by omega, by rw [e, l3]⟩, e, l3]
 ·rw [if_neg h3]
  simp only [List.cons_append, List.nil_append, dec]
  have e : (240 + r / 262144) % 8 * 262144 + (128 + r / 4096 % 64) % 64 * 4096 + (128 + r / 64 % 64) % 64 * 64 + (128 + r % 64) % 64 = r := by omega
  have l4 : len r = 4 := by unfold len; rw [if_pos hp, if_neg h1, if_neg h2, if_neg h3]
  rw [if_neg (by omega), if_neg (by omega), if_neg (by omega), if_neg (by omega), if_pos (by omega), if_pos ⟨by omega, by rw [e, l4]⟩, e, l4]
theorem len_three {r : Int} (h : len r = 3) : pt r ∧ 2048 ≤ r ∧ r < 65536 := by
 unfold len at h
 by_cases hp : pt r
 ·rw [if_pos hp] at h
  refine ⟨hp, ?_⟩
  repeat' split at h
  all_goals omega
 ·rw [if_neg hp] at h
  omega
theorem len_four {r : Int} (h : len r = 4) : pt r ∧ 65536 ≤ r := by
 unfold len at h
 by_cases hp : pt r
 ·rw [if_pos hp] at h
  refine ⟨hp, ?_⟩
  repeat' split at h
  all_goals omega
 ·rw [if_neg hp] at h
  omega
theorem dec_some {s : List Int} {r n : Int} (hb : Byte s) (h : dec s = some (r, n)) : pt r ∧ n = len r ∧ ∃ t, s = enc1 r ++ t := by
 cases s with
 | nil => simp [dec] at h
 | cons c t =>
  have hc := hb c (by simp)
  simp only [dec] at h
  by_cases h1 : c < 128
  ·rw [if_pos h1] at h
   simp only [Option.some.injEq, Prod.mk.injEq] at h
   obtain ⟨rfl, rfl⟩ := h
   have hp : pt c := by unfold pt; omega
   exact ⟨hp, by unfold len; rw [if_pos hp, if_pos h1], t, by unfold enc1; rw [if_pos h1]; rfl⟩
  rw [if_neg h1] at h
  by_cases h2 : c < 194
  ·rw [if_pos h2] at h; cases h
  rw [if_neg h2] at h
  by_cases h3 : c < 224
  ·rw [if_pos h3] at h
   cases t with
   | nil => cases h
   | cons d t =>
    have hd := hb d (by simp)
    simp only at h
    by_cases h4 : d / 64 = 2
    ·rw [if_pos h4] at h
     simp only [Option.some.injEq, Prod.mk.injEq] at h
     obtain ⟨rfl, rfl⟩ := h
     have hp : pt (c % 32 * 64 + d % 64) := by unfold pt; omega
     refine ⟨hp, by unfold len; rw [if_pos hp, if_neg (by omega), if_pos (by omega)], t, ?_⟩
     unfold enc1
     rw [if_neg (by omega), if_pos (by omega)]
     simp only [List.cons_append, List.nil_append, List.cons.injEq, and_true]
     omega
    ·rw [if_neg h4] at h; cases h
  rw [if_neg h3] at h
  by_cases h4 : c < 240
  ·rw [if_pos h4] at h
   match t, h with
   | [], h => cases h
   | [_], h => cases h
   | d :: e :: t, h =>
    have hd := hb d (by simp)
    have he := hb e (by simp)
    simp only at h
    by_cases h5 : (d / 64 = 2 ∧ e / 64 = 2) ∧ len (c % 16 * 4096 + d % 64 * 64 + e % 64) = 3
    ·rw [if_pos h5] at h
     simp only [Option.some.injEq, Prod.mk.injEq] at h
     obtain ⟨rfl, rfl⟩ := h
     obtain ⟨hp, h6, h7⟩ := len_three h5.2
     refine ⟨hp, h5.2.symm, t, ?_⟩
     unfold enc1
     rw [if_neg (by omega), if_neg (by omega), if_pos (by omega)]
     simp only [List.cons_append, List.nil_append, List.cons.injEq, and_true]
     omega
    ·rw [if_neg h5] at h; cases h
  rw [if_neg h4] at h
  by_cases h5 : c < 245
  ·rw [if_pos h5] at h
   match t, h with
   | [], h => cases h
   | [_], h => cases h
   | [_, _], h => cases h
   | d :: e :: f :: t, h =>
    have hd := hb d (by simp)
    have he := hb e (by simp)
    have hf := hb f (by simp)
    simp only at h
    by_cases h6 : (d / 64 = 2 ∧ e / 64 = 2 ∧ f / 64 = 2) ∧ len (c % 8 * 262144 + d % 64 * 4096 + e % 64 * 64 + f % 64) = 4
    ·rw [if_pos h6] at h
     simp only [Option.some.injEq, Prod.mk.injEq] at h
     obtain ⟨rfl, rfl⟩ := h
     obtain ⟨hp, h7⟩ := len_four h6.2
     refine ⟨hp, h6.2.symm, t, ?_⟩
     unfold enc1
     rw [if_neg (by omega), if_neg (by omega), if_neg (by omega)]
     simp only [List.cons_append, List.nil_append, List.cons.injEq, and_true]
     omega
    ·rw [if_neg h6] at h; cases h
  ·rw [if_neg h5] at h; cases h
def runes : Nat → List Int → Int → List Int → List Int × Int × Int
 | 0, _, at_, acc => (acc, at_, 0)
 | f + 1, s, at_, acc => if s = [] then (acc, at_, 0) else
  match dec s with
  | none => ([], at_, 10)
  | some (r, n) => runes f (s.drop n.toNat) (at_ + n) (acc ++ [r])
theorem dec_len {s : List Int} {r n : Int} (hb : Byte s) (h : dec s = some (r, n)) : 1 ≤ n ∧ n ≤ 4 ∧ n ≤ s.length ∧ pt r := by
 obtain ⟨hp, rfl, t, rfl⟩ := dec_some hb h
 have h1 := len_pos hp
 have h2 := enc1_length hp
 refine ⟨h1.1, h1.2, ?_, hp⟩
 simp
 omega
theorem dec_drop {s : List Int} {r n : Int} (hb : Byte s) (h : dec s = some (r, n)) : s = enc1 r ++ s.drop n.toNat := by
 obtain ⟨hp, rfl, t, rfl⟩ := dec_some hb h
 have h2 := enc1_length hp
 rw [List.drop_append_of_le_length (by omega), List.drop_of_length_le (by omega)]
 rfl
theorem byte_drop {s : List Int} (hb : Byte s) (n : Nat) : Byte (s.drop n) := fun x hx => hb x (List.mem_of_mem_drop hx)
theorem runes_enc {l : List Int} (h : ∀ r ∈ l, pt r) : ∀ (f : Nat) (at_ : Int) (acc : List Int), (enc l).length ≤ f → runes f (enc l) at_ acc = (acc ++ l, at_ + (enc l).length, 0) := by
 induction l with
 | nil =>
  intro f at_ acc hf
  cases f <;> simp [runes, enc]
 | cons r l ih =>
  intro f at_ acc hf
  have hp := h r (by simp)
  have h1 := enc1_length hp
  have h2 := len_pos hp
  have e : enc (r :: l) = enc1 r ++ enc l := by simp [enc]
  rw [e] at hf ⊢
  rw [List.length_append] at hf ⊢
  cases f with
  | zero => omega
  | succ f =>
   rw [runes, if_neg (by intro h0; have := congrArg List.length h0; rw [List.length_append, List.length_nil] at this; omega), dec_enc hp]
   simp only
   rw [List.drop_append_of_le_length (by omega), List.drop_of_length_le (by omega), List.nil_append,
    ih (fun x hx => h x (by simp [hx])) f _ _ (by omega)]
   simp
   omega
theorem runes_form {f : Nat} : ∀ {s : List Int} (at_ : Int) (acc : List Int), Byte s → s.length ≤ f →
  (∃ l, (∀ r ∈ l, pt r) ∧ s = enc l ∧ runes f s at_ acc = (acc ++ l, at_ + s.length, 0)) ∨
  (∃ l q, (∀ r ∈ l, pt r) ∧ s = enc l ++ q ∧ q ≠ [] ∧ dec q = none ∧ runes f s at_ acc = ([], at_ + (enc l).length, 10)) := by
 induction f with
 | zero =>
  intro s at_ acc hb hf
  obtain rfl : s = [] := List.length_eq_zero_iff.1 (by omega)
  exact .inl ⟨[], by simp, rfl, by simp [runes]⟩
 | succ f ih =>
  intro s at_ acc hb hf
  by_cases h0 : s = []
  ·subst h0
   exact .inl ⟨[], by simp, rfl, by simp [runes]⟩
  rw [runes, if_neg h0]
  cases hd : dec s with
  | none => exact .inr ⟨[], s, by simp, rfl, h0, hd, by simp [enc]⟩
  | some x =>
   obtain ⟨r, n⟩ := x
   simp only
   have h1 := dec_len hb hd
   have h2 := dec_drop hb hd
   obtain ⟨hp, hn, _⟩ := dec_some hb hd
   have h3 := enc1_length hp
   have hlen : (s.drop n.toNat).length = s.length - n.toNat := by simp
   rcases ih (at_ + n) (acc ++ [r]) (byte_drop hb n.toNat) (by omega) with ⟨l, g1, g2, g3⟩ | ⟨l, q, g1, g2, g3, g4, g5⟩
   ·refine .inl ⟨r :: l, by simpa using ⟨hp, g1⟩, by rw [h2, g2]; simp [enc], ?_⟩
    rw [g3]
    simp only [List.append_assoc, List.singleton_append, Prod.mk.injEq, true_and, and_true]
    omega
   ·refine .inr ⟨r :: l, q, by simpa using ⟨hp, g1⟩, by rw [h2, g2]; simp [enc, List.append_assoc], g3, g4, ?_⟩
    rw [g5]
    have : (enc (r :: l)).length = (enc1 r).length + (enc l).length := by simp [enc]
    simp only [Prod.mk.injEq, true_and, and_true]
    omega
theorem enc_snoc (l : List Int) (r : Int) : enc (l ++ [r]) = enc l ++ enc1 r := by simp [enc]
theorem runes_few (l : List Int) (h : ∀ r ∈ l, pt r) : l.length ≤ (enc l).length := by
 induction l with
 | nil => simp
 | cons r l ih =>
  have h1 := enc1_length (h r (by simp))
  have h2 := len_pos (h r (by simp))
  have h3 := ih (fun x hx => h x (by simp [hx]))
  have e : enc (r :: l) = enc1 r ++ enc l := by simp [enc]
  rw [e, List.length_append, List.length_cons]
  omega
theorem enc_len4 (l : List Int) : (enc l).length ≤ 4 * l.length := by
 induction l with
 | nil => simp [enc]
 | cons r l ih =>
  have e : enc (r :: l) = enc1 r ++ enc l := by simp [enc]
  have h1 : (enc1 r).length ≤ 4 := by
   unfold enc1
   repeat' split
   all_goals simp
  rw [e, List.length_append, List.length_cons]
  omega
end Utf
end Go.Proofs.YtdgnekknmpfepaaGreatDoor.Pure
