import Derived.Test.YtbffakgmlgimeaaQPrepMem
import Derived.Test.YtbffakgmlgimeaaP11
import Derived.Test.YtbffakgmlgimeaaP12
/- PrepSame: ASCII, with what is left out and other spaces, and in great letters. -/
namespace Go.Proofs.Ytbffakgmlgimeaa.Pure
open Go.RowKit Go.Proofs.Ytbffakgmlgimeaa.P Go.Proofs.YtbffakgmlgimeaaW.PrintWords Go.Proofs.YtbffakgmlgimeaaW.PrintLast
open Hangul Utf
set_option linter.unusedVariables false
set_option linter.unusedSimpArgs false
set_option maxRecDepth 100000
def Asc (l : List Int) : Prop := ∀ x ∈ l, 32 ≤ x ∧ x < 128
def dbl1 (c : Int) : List Int := if c = 32 then [32, 32] else [c]
def dbl (l : List Int) : List Int := l.flatMap dbl1
def spc1 (c : Int) : List Int := if c = 32 then [160, 8195] else [c]
def spcL (l : List Int) : List Int := [173] ++ l.flatMap spc1 ++ [8203]
def asc1 (b : Bool) (n : Nat) : Bool :=
 let c : Int := n
 decide (n < 32) || (((spc1 c).flatMap (mOne b) == dbl (mOne b c)) && (mOne b c).all (fun x => decide (32 ≤ x) && decide (x < 128) && fitK x && !mkc x) && (mOne true (upb c) == mOne true c) && decide (32 ≤ upb c) && decide (upb c < 128))
theorem asc_all : ∀ n : Fin 128, asc1 true n.val = true ∧ asc1 false n.val = true := by decide +kernel
theorem asc_at (b : Bool) {c : Int} (h : 32 ≤ c ∧ c < 128) : (spc1 c).flatMap (mOne b) = dbl (mOne b c) ∧ (∀ x ∈ mOne b c, 32 ≤ x ∧ x < 128 ∧ fitK x = true ∧ mkc x = false) ∧ mOne true (upb c) = mOne true c ∧ 32 ≤ upb c ∧ upb c < 128 := by
 obtain ⟨n, rfl⟩ := Int.eq_ofNat_of_zero_le (show 0 ≤ c by omega)
 have h1 := asc_all ⟨n, by omega⟩
 have h2 : asc1 b n = true := by cases b; exact h1.2; exact h1.1
 unfold asc1 at h2
 have h3 : decide (n < 32) = false := by simp; omega
 simp only [h3, Bool.false_or, Bool.and_eq_true, beq_iff_eq, List.all_eq_true, decide_eq_true_eq, Bool.not_eq_true'] at h2
 obtain ⟨⟨⟨⟨a1, a2⟩, a3⟩, a4⟩, a5⟩ := h2
 exact ⟨a1, fun x hx => ⟨(a2 x hx).1.1.1, (a2 x hx).1.1.2, (a2 x hx).1.2, (a2 x hx).2⟩, a3, a4, a5⟩
theorem gone_two (b : Bool) : mOne b 173 = [] ∧ mOne b 8203 = [] := by cases b <;> decide +kernel
theorem fMap_app (b : Bool) (l m : List Int) : fMap b (l ++ m) = fMap b l ++ fMap b m := List.flatMap_append
theorem dbl_app (l m : List Int) : dbl (l ++ m) = dbl l ++ dbl m := List.flatMap_append
theorem fMap_spc (b : Bool) {l : List Int} (h : Asc l) : fMap b (spcL l) = dbl (fMap b l) := by
 have key : fMap b (l.flatMap spc1) = dbl (fMap b l) := by
  induction l with
  | nil => rfl
  | cons a t ih =>
   rw [List.flatMap_cons, fMap_app, ih (fun x hx => h x (List.mem_cons_of_mem _ hx)), fMap_cons, dbl_app]
   exact congrArg (· ++ _) (asc_at b (h a List.mem_cons_self)).1
 unfold spcL
 rw [fMap_app, fMap_app, key]
 have e1 : fMap b [173] = [] := by rw [fMap_cons, (gone_two b).1]; rfl
 have e2 : fMap b [8203] = [] := by rw [fMap_cons, (gone_two b).2]; rfl
 rw [e1, e2, List.append_nil, List.nil_append]
theorem fMap_up {l : List Int} (h : Asc l) : fMap true (l.map upb) = fMap true l := by
 induction l with
 | nil => rfl
 | cons a t ih =>
  rw [List.map_cons, fMap_cons, fMap_cons, ih (fun x hx => h x (List.mem_cons_of_mem _ hx)), (asc_at true (h a List.mem_cons_self)).2.2.1]
theorem asc_up {l : List Int} (h : Asc l) : Asc (l.map upb) := by
 intro x hx
 obtain ⟨c, hc, rfl⟩ := List.mem_map.1 hx
 exact (asc_at true (h c hc)).2.2.2
def Low (l : List Int) : Prop := ∀ x ∈ l, 32 ≤ x ∧ x < 128 ∧ fitK x = true ∧ mkc x = false
theorem low_map (b : Bool) {l : List Int} (h : Asc l) : Low (fMap b l) := by
 intro x hx
 obtain ⟨c, hc, hx⟩ := List.mem_flatMap.1 hx
 exact (asc_at b (h c hc)).2.1 x hx
theorem fit32 : fitK 32 = true := by decide +kernel
theorem low_dbl {l : List Int} (h : Low l) : Low (dbl l) := by
 intro x hx
 obtain ⟨c, hc, hx⟩ := List.mem_flatMap.1 hx
 unfold dbl1 at hx
 split at hx
 ·have e : x = 32 := by simpa using hx
  rw [e]
  exact ⟨by omega, by omega, fit32, mkc32⟩
 ·rw [List.mem_singleton.1 hx]
  exact h c hc
theorem low_nRun {l : List Int} (h : Low l) : nRun true l = l := nRun_low true l (by
 unfold lowL
 rw [List.all_eq_true]
 intro x hx
 have := h x hx
 simp
 omega)
theorem low_bare {l : List Int} (h : Low l) : bareL mkc l = true := by
 cases l with
 | nil => rfl
 | cons a t => simp [bareL, (h a List.mem_cons_self).2.2.2]
theorem dbl_vVal : ∀ (A pre : List Int), Low A → vVal (pre ++ dbl A) = vVal (pre ++ A)
 | [], pre, _ => rfl
 | a :: t, pre, h => by
  have ht : Low t := fun x hx => h x (List.mem_cons_of_mem _ hx)
  have e : dbl (a :: t) = dbl1 a ++ dbl t := List.flatMap_cons
  rw [e, dbl1]
  split
  ·rename_i e
   subst e
   rw [show pre ++ ([32, 32] ++ dbl t) = pre ++ 32 :: 32 :: dbl t from rfl, vVal_more _ _ (low_bare (low_dbl ht)), show pre ++ 32 :: dbl t = (pre ++ [32]) ++ dbl t by simp, dbl_vVal t _ ht]
   simp
  ·rw [show pre ++ ([a] ++ dbl t) = (pre ++ [a]) ++ dbl t by simp, dbl_vVal t _ ht]
   simp
theorem dbl_leftS (S : Int → Bool) (hS : S 32 = true) : ∀ (A : List Int), Low A → leftS (S := S) (mk := mkc) (dbl A) = leftS (S := S) (mk := mkc) A
 | [], _ => rfl
 | a :: t, h => by
  have ht : Low t := fun x hx => h x (List.mem_cons_of_mem _ hx)
  have e : dbl (a :: t) = dbl1 a ++ dbl t := List.flatMap_cons
  have ih := dbl_leftS S hS t ht
  have b1 := low_bare ht
  have b2 := low_bare (low_dbl ht)
  rw [e, dbl1]
  split
  ·rename_i e
   subst e
   rw [show [32, 32] ++ dbl t = 32 :: 32 :: dbl t from rfl, leftS_cons, leftS_cons, leftS_cons, if_pos (by rw [hS]; simp [bareL, mkc32]), if_pos (by rw [hS, b2]; rfl), if_pos (by rw [hS, b1]; rfl), ih]
  ·rw [show [a] ++ dbl t = a :: dbl t from rfl, leftS_cons, leftS_cons, b1, b2, ih]
theorem low_leftS {S : Int → Bool} {A : List Int} (h : Low A) : Low (leftS (S := S) (mk := mkc) A) := fun x hx => h x (leftS_mem A x hx)
theorem dbl_pOut (way : Int) {A : List Int} (h : Low A) : pOut way (dbl A) = pOut way A := by
 unfold pOut
 rw [dbl_leftS sp rfl A h, dbl_leftS (fun a => sp a || hyp a) rfl A h, show vVal (dbl A) = vVal A from dbl_vVal A [] h]
theorem low_pOut (way : Int) {A : List Int} (h : Low A) : ∀ x ∈ pOut way A, pt x := by
 have key : ∀ x, (x = 32 ∨ x ∈ A) → pt x := by
  intro x hx
  rcases hx with rfl | hx
  ·exact ⟨by omega, by omega⟩
  ·have := h x hx
   exact ⟨by omega, by omega⟩
 intro x hx
 unfold pOut at hx
 split at hx
 ·rw [low_nRun (low_leftS h)] at hx
  exact key x (.inr (leftS_mem A x hx))
 ·split at hx
  ·rw [low_nRun (low_leftS h)] at hx
   exact key x (.inr (leftS_mem A x hx))
  ·exact key x (vVal_mem A x hx)
theorem pVal_low {way : Int} {S : ByteArray} {l A : List Int} (hk : pKnown way = true) (hs : S.size ≤ 1202) (hp : ∀ r ∈ l, pt r) (e : ints S = enc l) (hA : fMap (pFold way) l = A) (h : Low A) : pVal way S = (strOfNums (enc (pOut way A)), 0) := by
 have hm : pMid way l = A := by unfold pMid; rw [hA, low_nRun h]
 have hc : (chkV (pMid way l)).2 = 0 := by rw [hm]; exact chkV_ok (fun r hr => (h r hr).2.2.1)
 unfold pVal
 rw [if_pos hk, if_neg (by omega), rdS_of hp e, if_pos rfl]
 unfold pSteps
 simp only
 rw [if_pos hc, hm, if_pos rfl]
 exact laid_ok (low_pOut way h)
theorem asc_pt {l : List Int} (h : Asc l) : ∀ r ∈ l, pt r := fun r hr => by
 have := h r hr
 exact ⟨by omega, by omega⟩
theorem enc_low {x : Int} (h0 : 0 ≤ x) (h1 : x < 128) : enc1 x = [x] := by
 unfold enc1
 first | rw [if_pos h1] | (simp [h1]; done) | (simp [h1, show len x = 1 from by unfold len; rw [if_pos ⟨by omega, by omega⟩, if_pos h1]]; done)
theorem enc_asc {l : List Int} (h : Asc l) : enc l = l := by
 induction l with
 | nil => rfl
 | cons a t ih =>
  have ha := h a List.mem_cons_self
  show enc1 a ++ enc t = _
  rw [enc_low (by omega) (by omega), ih (fun x hx => h x (List.mem_cons_of_mem _ hx))]
  rfl
theorem spc_pt {l : List Int} (h : Asc l) : ∀ r ∈ spcL l, pt r := by
 intro r hr
 simp only [spcL, List.mem_append, List.mem_singleton] at hr
 rcases hr with (rfl | hr) | rfl
 ·exact ⟨by omega, by omega⟩
 ·obtain ⟨c, hc, hr⟩ := List.mem_flatMap.1 hr
  unfold spc1 at hr
  split at hr
  ·simp at hr
   exact ⟨by omega, by omega⟩
  ·rw [List.mem_singleton.1 hr]
   exact asc_pt h c hc
 ·exact ⟨by omega, by omega⟩
theorem enc_spc1 {c : Int} (h : 32 ≤ c ∧ c < 128) : enc (spc1 c) = if c = 32 then [194, 160, 226, 128, 131] else [c] := by
 unfold spc1
 split
 ·decide +kernel
 ·show enc1 c ++ [] = _
  rw [enc_low (by omega) (by omega), List.append_nil]
theorem spaced_loop {S : ByteArray} (hs : S.size ≤ 1000) : ∀ (suf pre : List Int) (acc : ByteArray), ints S = pre ++ suf → Asc suf → acc.size ≤ 5 * pre.length + 2 → ∃ T, Ev (fun k => toponymlaw12_spaced.l0 k S acc (pre.length : Int)) T ∧ ints T = ints acc ++ enc (suf.flatMap spc1) ++ enc [8203]
 | [], pre, acc, h, _, ha => by
  have hl := congrArg List.length h
  rw [ints_length, List.append_nil] at hl
  refine ⟨_, Ev.step (fun k => by simp only [toponymlaw12_spaced.l0]; rfl) (ev_neg (by omega) (ev_pos (by omega) (Ev.now _))), ?_⟩
  rw [ints_append, List.flatMap_nil, show enc ([] : List Int) = [] from rfl, List.append_nil]
  exact congrArg _ (by decide +kernel)
 | c :: t, pre, acc, h, hA, ha => by
  have hl := congrArg List.length h
  rw [ints_length, List.length_append, List.length_cons] at hl
  have hb : bt S (pre.length : Int) = c := bt_mid h
  have hc := hA c List.mem_cons_self
  have ht : Asc t := fun x hx => hA x (List.mem_cons_of_mem _ hx)
  have h' : ints S = (pre ++ [c]) ++ t := by rw [h]; simp
  have hn : ((pre ++ [c]).length : Int) = (pre.length : Int) + 1 := len_snoc pre c
  by_cases e : c = 32
  ·obtain ⟨T, hT, hi⟩ := spaced_loop hs t (pre ++ [c]) (acc ++ (⟨#[194, 160, 226, 128, 131]⟩ : ByteArray)) h' ht (by rw [ByteArray.size_append, show (⟨#[194, 160, 226, 128, 131]⟩ : ByteArray).size = 5 from rfl]; simp; omega)
   refine ⟨T, Ev.step (fun k => by simp only [toponymlaw12_spaced.l0]; rfl) ?_, ?_⟩
   ·refine ev_pos (by omega) (ev_pos (by omega) (ev_pos (by rw [hb]; exact e) (ev_pos (by omega) ?_)))
    rw [w64 (by omega) (by omega), ← hn]
    exact hT
   ·rw [hi, ints_append, List.flatMap_cons, enc_app, enc_spc1 hc, if_pos e]
    simp only [List.append_assoc]
    exact congrArg _ (congrArg (· ++ _) (by decide +kernel))
  ·have hx : ints (S.extract ((pre.length : Int)).toNat ((pre.length : Int) + 1).toNat) = [c] := by
    rw [ints_extract, h]
    simp
   have hxs : (S.extract ((pre.length : Int)).toNat ((pre.length : Int) + 1).toNat).size = 1 := by rw [← ints_length, hx]; rfl
   obtain ⟨T, hT, hi⟩ := spaced_loop hs t (pre ++ [c]) (acc ++ S.extract ((pre.length : Int)).toNat ((pre.length : Int) + 1).toNat) h' ht (by rw [ByteArray.size_append, hxs]; simp; omega)
   refine ⟨T, Ev.step (fun k => by simp only [toponymlaw12_spaced.l0]; rfl) ?_, ?_⟩
   ·rw [w64 (x := (pre.length : Int) + 1) (by omega) (by omega)]
    refine ev_pos (by omega) (ev_pos (by omega) (ev_neg (by rw [hb]; exact e) (ev_pos (by omega) (ev_pos (by omega) (ev_pos (by rw [hxs]; omega) ?_)))))
    rw [← hn]
    rw [hn]
    rw [hn] at hT
    exact hT
   ·rw [hi, ints_append, List.flatMap_cons, enc_app, enc_spc1 hc, if_neg e, hx]
    simp
theorem spaced_ev {S : ByteArray} (hs : S.size ≤ 1000) (h : Asc (ints S)) : ∃ T, Ev (fun k => toponymlaw12_spaced.f k S) T ∧ ints T = enc (spcL (ints S)) := by
 obtain ⟨T, hT, hi⟩ := spaced_loop hs (ints S) [] ⟨#[194, 173]⟩ (by simp) h (by decide)
 refine ⟨T, hT, ?_⟩
 rw [hi, spcL, enc_app, enc_app]
 exact congrArg (· ++ _) (congrArg (· ++ _) (by decide +kernel))
theorem spaced_size {S T : ByteArray} (h : Asc (ints S)) (e : ints T = enc (spcL (ints S))) : T.size ≤ 5 * S.size + 5 := by
 have h1 : (enc ((ints S).flatMap spc1)).length ≤ 5 * (ints S).length := by
  generalize ints S = l at h
  clear e
  induction l with
  | nil => exact Nat.le_refl _
  | cons a t ih =>
   have := ih (fun x hx => h x (List.mem_cons_of_mem _ hx))
   rw [List.flatMap_cons, enc_app, List.length_append, enc_spc1 (h a List.mem_cons_self)]
   simp only [List.length_cons]
   split <;> simp only [List.length_cons, List.length_nil] <;> omega
 rw [← ints_length, e, spcL, enc_app, enc_app, List.length_append, List.length_append]
 have e1 : (enc [173]).length = 2 := by decide +kernel
 have e2 : (enc [8203]).length = 3 := by decide +kernel
 rw [e1, e2]
 rw [ints_length] at h1
 omega
theorem same_g {way : Int} {v : ByteArray} : ∀ (l : List ByteArray) (i : Int) (first : ByteArray), (∀ s ∈ l, pVal way s = (v, 0)) → (i = 0 ∨ first = v) → 0 ≤ i → Ev (fun k => prep_Same.g k way l i true first) (true, 0)
 | [], i, first, _, _, _ => Ev.now _
 | s :: r, i, first, h, hf, hi => by
  simp only [prep_Same.g]
  have hs : Ev (fun k => prep_Value.f k way s) (v, 0) := by rw [← h s List.mem_cons_self]; exact pval_ev way s
  refine Ev.bind hs (ev_pos rfl ?_)
  have e : (if i = 0 then v else first) = v := by
   rcases hf with hf | hf
   ·rw [if_pos hf]
   ·rw [hf, ite_self]
  have := same_g r (i + 1) v (fun t ht => h t (List.mem_cons_of_mem _ ht)) (.inr rfl) (by omega)
  simpa [e] using this
theorem same_f {way : Int} {v : ByteArray} {l : List ByteArray} (hk : pKnown way = true) (h : ∀ s ∈ l, pVal way s = (v, 0)) : Ev (fun k => prep_Same.f k way l) (true, 0) := by
 unfold prep_Same.f
 refine ev_bind0 (known_eq way) (ev_pos hk ?_)
 exact (same_g l 0 _ h (.inl rfl) (Int.le_refl 0))
theorem same_end {way : Int} {S : ByteArray} (hk : pKnown way = true) (hs : S.size ≤ 150) (hA : Asc (ints S)) :
  Ev (fun k => (toponymlaw12_spaced.f k S).bind fun t471 => ((prep_Same.f k way (([S, t471] : List ByteArray))).bind fun bt475 => ((toponymlaw12_upper.f S).bind fun t477 => ((toponymlaw12_upper.f S).bind fun t478 => ((toponymlaw12_spaced.f k t478).bind fun t479 => ((prep_Same.f k 2 (([S, t477, t479] : List ByteArray))).bind fun bt483 => (if bt475.1 = true then (if bt475.2 = 0 then (if bt483.1 = true then (if bt483.2 = 0 then ((toponymlaw12_awake.f k).bind fun t485 => (some t485)) else (some false)) else (some false)) else (some false)) else (some false)))))))) true := by
 obtain ⟨T, hT, eT⟩ := spaced_ev (by omega) hA
 have hTs := spaced_size hA eT
 have hu : toponymlaw12_upper.f S = some (strOfNums ((ints S).map upb)) := if_pos (by omega)
 have eU : ints (strOfNums ((ints S).map upb)) = (ints S).map upb := ints_strOfNums (fun x hx => by
  have := asc_up hA x hx
  omega)
 have hUs : (strOfNums ((ints S).map upb)).size = S.size := by rw [← ints_length, eU, List.length_map, ints_length]
 have hAU : Asc (ints (strOfNums ((ints S).map upb))) := by rw [eU]; exact asc_up hA
 generalize strOfNums ((ints S).map upb) = U at hu eU hUs hAU
 obtain ⟨T2, hT2, eT2⟩ := spaced_ev (S := U) (by omega) hAU
 have hT2s := spaced_size hAU eT2
 have p1 : ∀ w, pKnown w = true → pVal w S = (strOfNums (enc (pOut w (fMap (pFold w) (ints S)))), 0) := fun w hw => pVal_low hw (by omega) (asc_pt hA) (enc_asc hA).symm rfl (low_map _ hA)
 have p2 : ∀ w, pKnown w = true → pVal w T = (strOfNums (enc (pOut w (fMap (pFold w) (ints S)))), 0) := fun w hw => by
  rw [← dbl_pOut w (low_map _ hA)]
  exact pVal_low hw (by omega) (spc_pt hA) eT (fMap_spc _ hA) (low_dbl (low_map _ hA))
 have k2 : pKnown 2 = true := rfl
 have f2 : pFold 2 = true := rfl
 have p3 : pVal 2 U = (strOfNums (enc (pOut 2 (fMap true (ints S)))), 0) := by
  refine pVal_low k2 (by omega) (asc_pt hAU) (enc_asc hAU).symm ?_ (low_map _ hA)
  rw [f2, eU, fMap_up hA]
 have p4 : pVal 2 T2 = (strOfNums (enc (pOut 2 (fMap true (ints S)))), 0) := by
  rw [← dbl_pOut 2 (low_map _ hA)]
  refine pVal_low k2 (by omega) (spc_pt hAU) eT2 ?_ (low_dbl (low_map _ hA))
  rw [f2, fMap_spc _ hAU, eU, fMap_up hA]
 refine Ev.bind hT ?_
 refine Ev.bind (same_f (v := strOfNums (enc (pOut way (fMap (pFold way) (ints S))))) hk (fun s hs => ?_)) ?_
 ·simp only [List.mem_cons, List.not_mem_nil, or_false] at hs
  rcases hs with rfl | rfl
  ·exact p1 way hk
  ·exact p2 way hk
 refine ev_bind0 hu (ev_bind0 hu (Ev.bind hT2 ?_))
 refine Ev.bind (same_f (v := strOfNums (enc (pOut 2 (fMap true (ints S))))) k2 (fun s hs => ?_)) ?_
 ·simp only [List.mem_cons, List.not_mem_nil, or_false] at hs
  rcases hs with rfl | rfl | rfl
  ·exact p1 2 k2
  ·exact p3
  ·exact p4
 exact ev_pos rfl (ev_pos rfl (ev_pos rfl (ev_pos rfl awake12)))
theorem same_loop12 {way : Int} {S : ByteArray} (hk : pKnown way = true) (hs : S.size ≤ 150) : ∀ (suf pre : List Int), ints S = pre ++ suf → Asc pre → Ev (fun k => toponymlaw12_PrepSame.l0 k way S (pre.length : Int)) true
 | [], pre, h, hA => by
  have hl := congrArg List.length h
  rw [ints_length, List.append_nil] at hl
  rw [List.append_nil] at h
  rw [← h] at hA
  refine Ev.step (fun k => by simp only [toponymlaw12_PrepSame.l0]; rfl) (ev_neg (by omega) ?_)
  exact same_end hk hs hA
 | c :: t, pre, h, hA => by
  have hl := congrArg List.length h
  rw [ints_length, List.length_append, List.length_cons] at hl
  have hb : bt S (pre.length : Int) = c := bt_mid h
  have h' : ints S = (pre ++ [c]) ++ t := by rw [h]; simp
  have hn : ((pre ++ [c]).length : Int) = (pre.length : Int) + 1 := len_snoc pre c
  refine Ev.step (fun k => by simp only [toponymlaw12_PrepSame.l0]; rfl) (ev_pos (by omega) (ev_pos (by omega) ?_))
  rw [hb]
  refine ev_ite (fun _ => awake12) (fun c1 => ev_ite (fun _ => awake12) (fun c2 => ?_))
  rw [w64 (by omega) (by omega), ← hn]
  exact same_loop12 hk hs t (pre ++ [c]) h' (fun x hx => by
   rcases List.mem_append.1 hx with hx | hx
   ·exact hA x hx
   ·rw [List.mem_singleton.1 hx]
    omega)
theorem PrepSame : toponymlaw12_PrepSame.Pure := by
 intro way S h0 h1
 refine Ev.rounds ?_
 unfold toponymlaw12_PrepSame.f
 have out : Ev (fun k => toponymlaw12_PrepSame.j0 k way S true) true := Ev.step (fun k => by simp only [toponymlaw12_PrepSame.j0]; rfl) (ev_pos (c := true = true) rfl awake12)
 refine ev_ite (fun _ => out) (fun c1 => ev_ite (fun _ => out) (fun c2 => ?_))
 by_cases c3 : way > 4
 ·rw [decide_eq_true c3]
  exact out
 ·rw [decide_eq_false c3]
  refine Ev.step (fun k => by simp only [toponymlaw12_PrepSame.j0]; rfl) (ev_neg (by decide) ?_)
  exact same_loop12 (by unfold pKnown; simp; omega) (by omega) (ints S) [] (by simp) (fun x hx => by simp at hx)
end Go.Proofs.Ytbffakgmlgimeaa.Pure
