import Derived.Test.YtdgnekknmpfepaaGreatDoorQOid
import Derived.Test.YtdgnekknmpfepaaGreatDoorQBytes
import Derived.Test.YtdgnekknmpfepaaGreatDoorP1
import Derived.Test.YtdgnekknmpfepaaGreatDoorP7
/- Layer 17 (oid): the texts: written, cut and read. -/
namespace Go.Proofs.YtdgnekknmpfepaaGreatDoor.Pure.O
open Go.RowKit Go.Proofs.YtdgnekknmpfepaaGreatDoor.P Go.Proofs.YtdgnekknmpfepaaGreatDoorW.PrintWords Go.Proofs.YtdgnekknmpfepaaGreatDoorW.PrintLast
set_option linter.unusedVariables false
set_option linter.unusedSimpArgs false
def num (n : Int) : ByteArray := ⟨(Lib.itoa n).toArray⟩
def txt (l : List Int) : ByteArray := ⟨(Lib.join (l.map Lib.itoa) [46]).toArray⟩
def small (n : Int) : Prop := 0 ≤ n ∧ n ≤ 99999
theorem vld_small {l : List Int} (h : vld l = true) : ∀ n ∈ l, small n := by
 intro n hn
 unfold vld at h
 simp only [Bool.and_eq_true, Bool.not_eq_true'] at h
 have hm := List.any_eq_false.1 h.1 n hn
 simp [bad] at hm
 exact hm
theorem itoa_nat {n : Int} (h : 0 ≤ n) : Lib.itoa n = Lib.decDigits n.toNat := by
 unfold Lib.itoa
 rw [if_neg (by omega)]
theorem dec_small {u : Nat} (h : u < 10) : Lib.decDigits u = [UInt8.ofNat (48 + u)] := by rw [Lib.decDigits, dif_pos h]
theorem dec_big {u : Nat} (h : ¬ u < 10) : Lib.decDigits u = Lib.decDigits (u / 10) ++ [UInt8.ofNat (48 + u % 10)] := by rw [Lib.decDigits, dif_neg h]
theorem dec_ne (u : Nat) : Lib.decDigits u ≠ [] := by
 by_cases h : u < 10
 ·rw [dec_small h]; simp
 ·rw [dec_big h]; simp
theorem dec_len : ∀ (k u : Nat), u < 10 ^ (k + 1) → (Lib.decDigits u).length ≤ k + 1
 | 0, u, h => by rw [dec_small (by simpa using h)]; simp
 | k + 1, u, h => by
  by_cases h1 : u < 10
  ·rw [dec_small h1]; simp
  ·rw [dec_big h1, List.length_append, List.length_singleton]
   have := dec_len k (u / 10) (by rw [Nat.pow_succ] at h; omega)
   omega
theorem dec_digit (u : Nat) : ∀ c ∈ Lib.decDigits u, 48 ≤ c.toNat ∧ c.toNat ≤ 57 := by
 induction u using Nat.strongRecOn with
 | _ u ih =>
  intro c hc
  by_cases h : u < 10
  ·rw [dec_small h, List.mem_singleton] at hc
   subst hc
   rw [UInt8.toNat_ofNat']
   omega
  ·rw [dec_big h, List.mem_append, List.mem_singleton] at hc
   rcases hc with hc | rfl
   ·exact ih (u / 10) (by omega) c hc
   ·rw [UInt8.toNat_ofNat']
    omega
theorem itoa_len {n : Int} (h : small n) : (Lib.itoa n).length ≤ 5 := by
 rw [itoa_nat h.1]
 exact dec_len 4 _ (by have := h.2; have := h.1; omega)
theorem itoa_nodot {n : Int} (h : 0 ≤ n) : ∀ c ∈ Lib.itoa n, c ≠ 46 := by
 rw [itoa_nat h]
 intro c hc e
 have := (dec_digit _ c hc).1
 rw [e] at this
 exact absurd this (by decide)
theorem num_size {n : Int} (h : small n) : (num n).size ≤ 5 := by
 show (Lib.itoa n).toArray.size ≤ 5
 simpa using itoa_len h
theorem lens_le (l : List Int) (h : ∀ n ∈ l, small n) : Lib.lens (l.map Lib.itoa) ≤ 5 * l.length := by
 induction l with
 | nil => simp [Lib.lens]
 | cons a l ih =>
  have h1 := itoa_len (h a (by simp))
  have h2 := ih (fun n hn => h n (by simp [hn]))
  simp only [Lib.lens, List.map_cons, List.sum_cons, List.length_cons] at h2 ⊢
  omega
theorem join_len (l : List Int) (h : ∀ n ∈ l, small n) : (Lib.join (l.map Lib.itoa) [46]).length ≤ 6 * l.length := by
 cases l with
 | nil => simp [Lib.join_nil]
 | cons a l =>
  rw [List.map_cons, Lib.join_length]
  have := lens_le (a :: l) h
  simp only [List.map_cons, List.length_cons, List.length_map, List.length_nil, Nat.zero_add, Nat.one_mul] at this ⊢
  omega
theorem txt_size (l : List Int) (h : ∀ n ∈ l, small n) : (txt l).size ≤ 6 * l.length := by
 show (Lib.join (l.map Lib.itoa) [46]).toArray.size ≤ _
 simpa using join_len l h
theorem num_data (l : List Int) : (l.map num).map (·.data.toList) = l.map Lib.itoa := by
 rw [List.map_map]
 exact List.map_congr_left fun x _ => by simp [num]
theorem join_ev (l : List Int) (hl : l.length ≤ 12) (h : ∀ n ∈ l, small n) : strings_Join.f (l.map num) (⟨#[46]⟩ : ByteArray) = some (txt l) := by
 unfold strings_Join.f
 rw [num_data]
 have hj := join_len l h
 have hd : (⟨#[46]⟩ : ByteArray).data.toList = [46] := rfl
 rw [hd, if_pos ⟨by simp; omega, by omega⟩]
 rfl
theorem show_loop (pre suf : List Int) (hl : (pre ++ suf).length ≤ 12) (h : ∀ n ∈ pre ++ suf, small n) :
  Ev (fun k => oid_Show.l0 k (pre.map num) (pre ++ suf) ((pre ++ suf).length : Int) (pre.length : Int)) (txt (pre ++ suf), 0) := by
 induction suf generalizing pre with
 | nil =>
  refine Ev.step (fun k => by simp only [oid_Show.l0]; rfl) (ev_neg (by simp) ?_)
  rw [List.append_nil] at hl h ⊢
  exact ev_bind0 (join_ev pre hl h) (Ev.now _)
 | cons a suf ih =>
  have hl2 : pre.length ≤ 12 := by simp at hl; omega
  refine Ev.step (fun k => by simp only [oid_Show.l0]; rfl) (ev_pos (mid_lt pre a suf) (ev_pos (by omega) (ev_pos (mid_lt pre a suf) ?_)))
  rw [rd_mid]
  have hs := h a (by simp)
  have hi : strconv_Itoa_97.f a = some (num a) := by
   unfold strconv_Itoa_97.f
   unfold small at hs
   rw [if_pos ⟨by omega, by omega⟩]
   rfl
  refine ev_bind0 hi (ev_pos (by simp; omega) ?_)
  rw [w64 (by omega) (by omega), ← len_snoc pre a, mid_snoc]
  have e : pre.map num ++ [num a] = (pre ++ [a]).map num := by simp
  rw [e]
  exact ih (pre ++ [a]) (by simpa using hl) (by simpa using h)
def oShow (l : List Int) : ByteArray × Int := if vld l = true then (txt l, 0) else (⟨#[]⟩, 170)
theorem show_ev (l : List Int) (hl : l.length ≤ 1000000) : Ev (fun k => oid_Show.f k l) (oShow l) := by
 unfold oid_Show.f oShow
 refine Ev.bind (check_ev l hl) (ev_ite (fun h => ?_) (fun h => ?_))
 ·have hv := (code_zero l).1 h
  rw [if_pos hv]
  have := show_loop [] l ((vld_iff l).1 hv).2.1 (vld_small hv)
  simpa using this
 ·rw [code_zero] at h
  rw [if_neg h]
  unfold oCode
  rw [if_neg h]
  exact Ev.now _
theorem one_digit {u : Int} (h0 : 0 ≤ u) (h1 : u < 10) : strOfNums [(wrap64 (48 + u)) % 256] = ⟨#[UInt8.ofNat (48 + u.toNat)]⟩ := by
 rw [w64 (by omega) (by omega)]
 apply ints_inj
 rw [ints_strOfNums (by simp; omega)]
 have e : (UInt8.ofNat (48 + u.toNat)).toNat = 48 + u.toNat := by rw [UInt8.toNat_ofNat']; omega
 simp only [ints, List.map_cons, List.map_nil, e]
 congr 1
 omega
theorem ints_txt (l : List Int) : ints (txt l) = (Lib.join (l.map Lib.itoa) [46]).map fun b => (b.toNat : Int) := by simp [ints, txt]
theorem ints_num (n : Int) : ints (num n) = (Lib.itoa n).map fun b => (b.toNat : Int) := by simp [ints, num]
theorem ints_dot : ints (⟨#[46]⟩ : ByteArray) = [46] := rfl
theorem join_snoc (x : List UInt8) (r : List (List UInt8)) (a : List UInt8) : Lib.join (x :: r ++ [a]) [46] = Lib.join (x :: r) [46] ++ ([46] ++ a) := by
 rw [List.cons_append, Lib.join_cons, Lib.join_cons]
 simp [Lib.joinTail]
theorem txt_snoc (x : Int) (r : List Int) (a : Int) : txt (x :: r ++ [a]) = (txt (x :: r) ++ (⟨#[46]⟩ : ByteArray)) ++ num a := by
 apply ints_inj
 rw [ints_append, ints_append, ints_txt, ints_txt, ints_num, ints_dot]
 have := join_snoc (Lib.itoa x) (r.map Lib.itoa) (Lib.itoa a)
 simp only [List.map_append, List.map_cons, List.map_nil] at this ⊢
 rw [this]
 simp
theorem txt_one (x : Int) : txt [x] = num x := by
 apply ints_inj
 rw [ints_txt, ints_num]
 simp [Lib.join_one]
theorem index_dot (p r : List UInt8) (hp : ∀ c ∈ p, c ≠ 46) : Lib.index (p ++ 46 :: r) [46] = p.length := by
 induction p with
 | nil => rfl
 | cons c p ih =>
  have h1 := ih (fun d hd => hp d (by simp [hd]))
  have hc : (46 : UInt8) ≠ c := fun e => hp c (by simp) e.symm
  rw [List.cons_append, Lib.index, h1]
  have e1 : ([46] : List UInt8).isPrefixOf (c :: (p ++ 46 :: r)) = false := by simp [List.isPrefixOf, hc]
  have e2 : (((p.length : Int)) == -1) = false := by rw [beq_eq_false_iff_ne]; omega
  rw [e1, e2]
  simp
theorem index_nodot (p : List UInt8) (hp : ∀ c ∈ p, c ≠ 46) : Lib.index p [46] = -1 := by
 induction p with
 | nil => rfl
 | cons c p ih =>
  have h1 := ih (fun d hd => hp d (by simp [hd]))
  have hc : (46 : UInt8) ≠ c := fun e => hp c (by simp) e.symm
  rw [Lib.index, h1]
  have e1 : ([46] : List UInt8).isPrefixOf (c :: p) = false := by simp [List.isPrefixOf, hc]
  rw [e1]
  rfl
theorem extract_list (l : List UInt8) (i j : Nat) : (⟨l.toArray⟩ : ByteArray).extract i j = ⟨((l.drop i).take (j - i)).toArray⟩ := by
 apply ByteArray.ext
 apply Array.toList_inj.mp
 simp
theorem cut_join (ps : List (List UInt8)) (hne : ps ≠ []) (hd : ∀ p ∈ ps, ∀ c ∈ p, c ≠ 46) :
  oid_cut (⟨(Lib.join ps [46]).toArray⟩ : ByteArray) = ps.map fun p => (⟨p.toArray⟩ : ByteArray) := by
 unfold oid_cut
 induction ps with
 | nil => exact absurd rfl hne
 | cons p ps ih =>
  cases ps with
  | nil =>
   rw [Lib.join_one]
   have hx : Lib.indexB (⟨p.toArray⟩ : ByteArray) ⟨#[46]⟩ = -1 := by
    show Lib.index p.toArray.toList [46] = -1
    rw [List.toList_toArray]
    exact index_nodot p (hd p (by simp))
   rw [Lib.countB_miss _ _ hx]
   rfl
  | cons q ps =>
   have hj : Lib.join (p :: q :: ps) [46] = p ++ 46 :: Lib.join (q :: ps) [46] := by
    rw [Lib.join_cons, Lib.join_cons]
    simp [Lib.joinTail]
   have hx : Lib.indexB (⟨(Lib.join (p :: q :: ps) [46]).toArray⟩ : ByteArray) ⟨#[46]⟩ = p.length := by
    show Lib.index (Lib.join (p :: q :: ps) [46]).toArray.toList [46] = p.length
    rw [List.toList_toArray, hj]
    exact index_dot p _ (hd p (by simp))
   have hsz : (⟨(Lib.join (p :: q :: ps) [46]).toArray⟩ : ByteArray).size = p.length + 1 + (Lib.join (q :: ps) [46]).length := by
    show (Lib.join (p :: q :: ps) [46]).toArray.size = _
    rw [hj]
    simp
    omega
   have h1 : (⟨#[46]⟩ : ByteArray).size = 1 := rfl
   rw [Lib.countB_hit _ _ p.length (by decide) hx, Nat.add_comm 1, Lib.splitB_hit _ _ _ _ _ hx, h1, hsz, extract_list, extract_list]
   have e1 : ((Lib.join (p :: q :: ps) [46]).drop 0).take (p.length + 0 - 0) = p := by rw [hj]; simp
   have e2 : ((Lib.join (p :: q :: ps) [46]).drop (p.length + 1)).take (p.length + 1 + (Lib.join (q :: ps) [46]).length - (p.length + 1)) = Lib.join (q :: ps) [46] := by
    rw [hj, Nat.add_sub_cancel_left]
    have : (p ++ 46 :: Lib.join (q :: ps) [46]).drop (p.length + 1) = Lib.join (q :: ps) [46] := by
     rw [List.drop_append]
     simp
    rw [this]
    exact List.take_of_length_le (Nat.le_refl _)
   rw [e1, e2, ih (by simp) (fun x hx => hd x (by simp at hx ⊢; exact Or.inr hx))]
   rfl
theorem uint_snoc (l : List UInt8) (c : UInt8) : ∀ (acc v : Nat), Lib.parseUint10 acc l = .ok v → 48 ≤ c.toNat → c.toNat ≤ 57 → v < 1000000 → Lib.parseUint10 acc (l ++ [c]) = .ok (v * 10 + (c.toNat - 48)) := by
 induction l with
 | nil =>
  intro acc v h h1 h2 h3
  simp only [Lib.parseUint10, Lib.NumEnd.ok.injEq] at h
  subst h
  simp only [List.nil_append, Lib.parseUint10]
  rw [if_pos ⟨h1, h2⟩, if_neg (by omega), if_neg (by omega)]
 | cons d l ih =>
  intro acc v h h1 h2 h3
  simp only [List.cons_append, Lib.parseUint10] at h ⊢
  split at h
  ·rename_i g
   rw [if_pos g]
   split at h
   ·cases h
   ·rename_i g2
    rw [if_neg g2]
    split at h
    ·cases h
    ·rename_i g3
     rw [if_neg g3]
     exact ih _ _ h h1 h2 h3
  ·cases h
theorem uint_dec (u : Nat) : u < 1000000 → Lib.parseUint10 0 (Lib.decDigits u) = .ok u := by
 induction u using Nat.strongRecOn with
 | _ u ih =>
  intro hu
  by_cases h : u < 10
  ·have := uint_snoc [] (UInt8.ofNat (48 + u)) 0 0 rfl (by rw [UInt8.toNat_ofNat']; omega) (by rw [UInt8.toNat_ofNat']; omega) (by omega)
   rw [dec_small h]
   simp only [List.nil_append] at this
   rw [this, UInt8.toNat_ofNat']
   congr 1
   omega
  ·have := uint_snoc _ (UInt8.ofNat (48 + u % 10)) 0 _ (ih (u / 10) (by omega) (by omega)) (by rw [UInt8.toNat_ofNat']; omega) (by rw [UInt8.toNat_ofNat']; omega) (by omega)
   rw [dec_big h, this, UInt8.toNat_ofNat']
   congr 1
   omega
theorem atoi_itoa {n : Int} (h : small n) : Lib.atoiAll (Lib.itoa n) = .ok n := by
 have h0 := h.1
 have h1 := h.2
 rw [itoa_nat h.1]
 have hp := uint_dec n.toNat (by omega)
 have hd := dec_digit n.toNat
 have hne := dec_ne n.toNat
 unfold Lib.atoiAll
 generalize Lib.decDigits n.toNat = ds at hp hd hne
 cases ds with
 | nil => exact absurd rfl hne
 | cons c r =>
  have hc := hd c (by simp)
  have hm : Lib.parseMag (c :: r) = .ok n.toNat := by
   unfold Lib.parseMag
   rw [if_neg (by simp)]
   exact hp
  dsimp only
  rw [if_neg (by omega), hm]
  dsimp only
  rw [if_neg (by omega), if_neg (by omega), if_neg (by omega)]
  congr 1
  omega
theorem parts_ok (l out : List Int) (h : ∀ n ∈ l, small n) : oid_parts (l.map num) out = some (out ++ l) := by
 induction l generalizing out with
 | nil => simp [oid_parts]
 | cons a l ih =>
  have ha := h a (by simp)
  have hs := num_size ha
  have e : Lib.atoiAll (num a).data.toList = .ok a := by
   have : (num a).data.toList = Lib.itoa a := by simp [num]
   rw [this]
   exact atoi_itoa ha
  rw [List.map_cons, oid_parts, e]
  dsimp only
  rw [if_neg (by omega), ih _ (fun n hn => h n (by simp [hn]))]
  simp
theorem cut_txt (l : List Int) (hne : l ≠ []) (h : ∀ n ∈ l, small n) : oid_cut (txt l) = l.map num := by
 unfold txt
 rw [cut_join _ (by simpa using hne) (fun p hp c hc => by
  obtain ⟨n, hn, rfl⟩ := List.mem_map.1 hp
  exact itoa_nodot (h n hn).1 c hc), List.map_map]
 rfl
theorem parts_length (ps : List ByteArray) : ∀ (out l : List Int), oid_parts ps out = some l → l.length = out.length + ps.length := by
 induction ps with
 | nil =>
  intro out l h
  simp only [oid_parts, Option.some.injEq] at h
  rw [h]
  rfl
 | cons p ps ih =>
  intro out l h
  rw [oid_parts] at h
  split at h
  ·split at h
   ·cases h
   ·have := ih _ _ h
    simp at this ⊢
    omega
  ·cases h
def told (s : ByteArray) (r : List Int × Int) : Prop := r = ([], 170) ∨ ∃ l, vld l = true ∧ txt l = s ∧ r = (l, 0)
theorem bt_txt (a b : ByteArray) : a.toList = b.toList ↔ a = b := by
 rw [toList_iff]
 exact ⟨ints_inj, fun h => by rw [h]⟩
theorem parse_any (s : ByteArray) : ∃ r, Ev (fun k => oid_Parse.f k s) r ∧ told s r := by
 unfold oid_Parse.f
 by_cases h : s.size > 80
 ·exact ⟨_, ev_pos h (Ev.now _), Or.inl rfl⟩
 ·cases hp : oid_parts (oid_cut s) [] with
  | none => exact ⟨_, ev_neg h (Ev.now _), Or.inl rfl⟩
  | some l =>
   have hl : l.length ≤ 1000000 := by
    have h1 := parts_length _ _ _ hp
    have h2 := Lib.countB_le ⟨#[46]⟩ (Nat.le_refl 1) s.size s (Nat.le_refl _)
    rw [cut_length] at h1
    simp at h1
    omega
   by_cases hv : vld l = true
   ·by_cases ht : txt l = s
    ·refine ⟨(l, 0), ev_neg h (Ev.bind (show_ev l hl) ?_), Or.inr ⟨l, hv, ht, rfl⟩⟩
     unfold oShow
     rw [if_pos hv]
     exact ev_pos rfl (ev_pos ((bt_txt _ _).2 ht) (Ev.now _))
    ·refine ⟨([], 170), ev_neg h (Ev.bind (show_ev l hl) ?_), Or.inl rfl⟩
     unfold oShow
     rw [if_pos hv]
     exact ev_pos rfl (ev_neg (fun e => ht ((bt_txt _ _).1 e)) (Ev.now _))
   ·refine ⟨([], 170), ev_neg h (Ev.bind (show_ev l hl) ?_), Or.inl rfl⟩
    unfold oShow
    rw [if_neg hv]
    exact ev_neg (by decide) (Ev.now _)
theorem parse_txt {l : List Int} (hv : vld l = true) : Ev (fun k => oid_Parse.f k (txt l)) (l, 0) := by
 have hs := vld_small hv
 have hi := (vld_iff l).1 hv
 have hz := txt_size l hs
 have hp : oid_parts (oid_cut (txt l)) [] = some l := by
  rw [cut_txt l (fun e => by rw [e] at hi; simp at hi) hs, parts_ok l [] hs]
  rfl
 unfold oid_Parse.f
 rw [hp]
 refine ev_neg (by omega) (Ev.bind (show_ev l (by omega)) ?_)
 unfold oShow
 rw [if_pos hv]
 exact ev_pos rfl (ev_pos rfl (Ev.now _))
def rEnd (l : List Int) (s : ByteArray) : List Int × Int := if vld l = true ∧ txt l = s then (l, 0) else ([], 170)
def tl (l : List Int) : List Int := (l.map fun n => (46 : Int) :: ints (num n)).flatten
theorem tail_ints (l : List Int) : (Lib.joinTail [46] (l.map Lib.itoa)).map (fun b => (b.toNat : Int)) = tl l := by
 induction l with
 | nil => rfl
 | cons a l ih =>
  simp only [Lib.joinTail, tl, List.map_cons, List.flatten_cons, List.map_append] at ih ⊢
  rw [ih, ints_num]
  rfl
theorem ints_join (x : Int) (l : List Int) : ints (txt (x :: l)) = ints (num x) ++ tl l := by
 rw [ints_txt, List.map_cons, Lib.join_cons, List.map_append, tail_ints, ints_num]
theorem rEnd_told (l : List Int) (s : ByteArray) : told s (rEnd l s) := by
 unfold rEnd
 by_cases h : vld l = true ∧ txt l = s
 ·rw [if_pos h]
  exact Or.inr ⟨l, h.1, h.2, rfl⟩
 ·rw [if_neg h]
  exact Or.inl rfl
theorem bt_range (s : ByteArray) (i : Int) : 0 ≤ bt s i ∧ bt s i ≤ 255 := by
 unfold bt
 split
 ·have := (s[i.toNat]).toNat_lt
  omega
 ·omega
theorem ev_one {α : Type} {g : Nat → Option α} {a b : α} (h1 : Ev g a) (h2 : Ev g b) : a = b := by
 obtain ⟨K1, h1⟩ := h1
 obtain ⟨K2, h2⟩ := h2
 have a1 := h1 (K1 + K2) (by omega)
 have a2 := h2 (K1 + K2) (by omega)
 rw [a1] at a2
 exact Option.some.inj a2
end Go.Proofs.YtdgnekknmpfepaaGreatDoor.Pure.O
