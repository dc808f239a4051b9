-- Printed by wip/mk.py (this session's driver over the kit's print) and from wip/manual.
import Derived.Test.YtmicdcgjooopeaaT0
namespace Go.Proofs.Ytmicdcgjooopeaa.P
open Go.RowKit Go.Proofs.YtmicdcgjooopeaaW.PrintWords Go.Proofs.YtmicdcgjooopeaaW.PrintLast Go.Proofs.YtmicdcgjooopeaaW.PrintMore
attribute [local go_sem] max2_int min2_int max_two min_two max_three min_three max_four min_four   -- for this text's walks alone
set_option linter.unusedVariables false
set_option linter.unusedSimpArgs false

/-! ### hangul_Syllable: function 8 -/
def hangul_Syllable.f (a0 : Int) : Option (Bool) := if a0 ≥ 44032 then (some (decide (a0 ≤ 55203))) else (some false)
set_option maxHeartbeats 8000000 in
set_option maxRecDepth 100000 in
theorem hangul_Syllable.calls (a0 : Int) (r : Bool) (w : World) (h : hangul_Syllable.f a0 = some r) :
  Calls Try.prog 8 #[.int .i32 a0] w fun e w' => e = .returned (.bool r) ∧ Drawn0 w w' := by
 have H := h
 clear h
 unfold hangul_Syllable.f at H
 by_cases c2 : a0 ≥ 44032
 ·rw [if_pos c2] at H
  have c2b0 : decide (44032 ≤ a0) = true := decide_eq_true c2
  clear c2
  obtain rfl := sI H
  go_enter Try.func8, Try.ntmps8
  go_wp2
  go_ret
  exact ⟨zP, zD⟩
 ·rw [if_neg c2] at H
  have c2b0 : decide (44032 ≤ a0) = false := decide_eq_false c2
  clear c2
  obtain rfl := sI H
  go_enter Try.func8, Try.ntmps8
  go_wp2
  go_ret
  exact ⟨zP, zD⟩

/-! ### toponymref01_Same: function 12 -/
def toponymref01_Same.l0 : Nat → List Int → List Int → Int → Option (Bool)
 | 0, _, _, _ => none
 | k + 1, x0, x1, x5 => if x5 < (x0.length : Int) then (if 0 ≤ x5 then (if x5 < (x1.length : Int) then (if (rd x0 x5) = (rd x1 x5) then (toponymref01_Same.l0 k x0 x1 (wrap64 (x5 + 1))) else (some false)) else (none)) else (none)) else (some true)
def toponymref01_Same.f (k : Nat) (l0 : List Int) (l1 : List Int) : Option (Bool) := if (l0.length : Int) = (l1.length : Int) then (toponymref01_Same.l0 k l0 l1 0) else (some false)
theorem toponymref01_Same.mono_l : ∀ k, (∀ y0 y1 y2, LeO (toponymref01_Same.l0 k y0 y1 y2) (toponymref01_Same.l0 (k + 1) y0 y1 y2))
 | 0 => fun _ _ _ r h => by simp [toponymref01_Same.l0] at h
 | k + 1 => by
  have ih0 := toponymref01_Same.mono_l k
  ·intro y0 y1 y2
   unfold toponymref01_Same.l0
   repeat' first
   | (with_reducible exact ih0 _ _ _)
   | (with_reducible exact LeO.refl _)
   | exact ih0 _ _ _
   | exact LeO.none _
   | refine LeO.ite ?_ ?_
   | refine LeO.bind ?_ (fun _ => ?_)
theorem toponymref01_Same.mono : ∀ a0 a1 k, LeO (toponymref01_Same.f k a0 a1) (toponymref01_Same.f (k + 1) a0 a1) := by
 intro a0 a1 k
 have ih0 := toponymref01_Same.mono_l k
 unfold toponymref01_Same.f
 repeat' first
   | (with_reducible exact ih0 _ _ _)
   | (with_reducible exact LeO.refl _)
   | exact ih0 _ _ _
   | exact LeO.none _
   | refine LeO.ite ?_ ?_
   | refine LeO.bind ?_ (fun _ => ?_)
set_option maxHeartbeats 8000000 in
set_option maxRecDepth 100000 in
theorem toponymref01_Same.calls (k : Nat) (A0 : Option Addr) (c0 : Nat) (l0 : List Int) (A1 : Option Addr) (c1 : Nat) (l1 : List Int) (r : Bool) (w : World) (hr0 : Kd.C (Kd.int .i32) w A0 l0.length l0) (hc0 : l0.length ≤ c0) (hr1 : Kd.C (Kd.int .i32) w A1 l1.length l1) (hc1 : l1.length ≤ c1) (h : toponymref01_Same.f k l0 l1 = some r) :
  Calls Try.prog 12 #[.slice A0 l0.length c0, .slice A1 l1.length c1] w fun e w' => e = .returned (.bool r) ∧ Drawn0 w w' := by
 have HR0 := aM hr0
 have HC0 := aM hc0
 clear hr0 hc0
 have HR1 := aM hr1
 have HC1 := aM hc1
 clear hr1 hc1
 have H := h
 clear h
 unfold toponymref01_Same.f at H
 by_cases c3 : (l0.length : Int) = (l1.length : Int)
 ·rw [if_pos c3] at H
  have c3b0 : ((l0.length : Int) == (l1.length : Int)) = true := beq_iff_eq.mpr c3
  have c3b1 : ((l0.length : Int) != (l1.length : Int)) = false := bne_eq_false_iff_eq.mpr c3
  have c3b2 : (l0.length == l1.length) = true := by first | simpa using c3 | (simp at c3 ⊢; omega)
  clear c3
  have H' := aM H
  clear H
  go_enter Try.func12, Try.ntmps12
  go_wp2
  repeat (go_quiet (fail); try go_wp2)
  go_loopg [5] k (fun kq v5 w' => ∃ (x5_1 : Int), v5 = .int .i64 x5_1 ∧ Aside0 (toponymref01_Same.l0 kq l0 l1 x5_1 = some r) ∧ Aside0 (kq ≤ k) ∧ Drawn0 w w')
  case atStart => exact ⟨(0), zP, H', ⟨Nat.le_refl _⟩, zD⟩
  case round =>
   clear H'
   try clear c1
   try clear p2
   try clear c3
   try clear c3b0
   try clear c3b1
   try clear c3b2
   obtain ⟨x5_1, rfl, HA, HK1, ⟨m1, rfl⟩⟩ := hrel
   cases gk with
   | zero => exact absurd HA.out (by simp [toponymref01_Same.l0])
   | succ k1 =>
    have H := HA.out
    clear HA
    simp only [toponymref01_Same.l0] at H
    by_cases c4 : x5_1 < (l0.length : Int)
    ·rw [if_pos c4] at H
     have c4b0 : decide (x5_1 < (l0.length : Int)) = true := decide_eq_true c4
     clear c4
     by_cases c5 : 0 ≤ x5_1
     ·rw [if_pos c5] at H
      have c5b0 : decide (0 ≤ x5_1) = true := decide_eq_true c5
      clear c5
      by_cases c6 : x5_1 < (l1.length : Int)
      ·rw [if_pos c6] at H
       have c6b0 : decide (x5_1 < (l1.length : Int)) = true := decide_eq_true c6
       clear c6
       by_cases c7 : (rd l0 x5_1) = (rd l1 x5_1)
       ·rw [if_pos c7] at H
        have c7b0 : ((rd l0 x5_1) == (rd l1 x5_1)) = true := beq_iff_eq.mpr c7
        have c7b1 : ((rd l0 x5_1) != (rd l1 x5_1)) = false := bne_eq_false_iff_eq.mpr c7
        clear c7
        have H' := aM H
        clear H
        have p101 : 0 ≤ (x5_1 : Int) := zoA
        have q101 : x5_1 < (l0.length : Int) := zoA
        obtain ⟨ad101, e101, hx101_0⟩ := Kd.at_int HR0.out x5_1 p101 q101
        cases e101
        replace p101 := eq_true p101
        replace q101 := eq_true q101
        have p102 : 0 ≤ (x5_1 : Int) := zoA
        have q102 : x5_1 < (l1.length : Int) := zoA
        obtain ⟨ad102, e102, hx102_0⟩ := Kd.at_int HR1.out x5_1 p102 q102
        cases e102
        replace p102 := eq_true p102
        replace q102 := eq_true q102
        go_wp2
        repeat (go_quiet (fail); try go_wp2)
        go_roundg k1
        case measure => have := HK1.out; omega
        case rel => exact ⟨(wrap64 (x5_1 + 1)), zP, H', ⟨by have := HK1.out; omega⟩, zD⟩
       ·rw [if_neg c7] at H
        have c7b0 : ((rd l0 x5_1) == (rd l1 x5_1)) = false := beq_eq_false_iff_ne.mpr c7
        have c7b1 : ((rd l0 x5_1) != (rd l1 x5_1)) = true := bne_iff_ne.mpr c7
        obtain rfl := sI H
        have p101 : 0 ≤ (x5_1 : Int) := zoA
        have q101 : x5_1 < (l0.length : Int) := zoA
        obtain ⟨ad101, e101, hx101_0⟩ := Kd.at_int HR0.out x5_1 p101 q101
        cases e101
        replace p101 := eq_true p101
        replace q101 := eq_true q101
        have p102 : 0 ≤ (x5_1 : Int) := zoA
        have q102 : x5_1 < (l1.length : Int) := zoA
        obtain ⟨ad102, e102, hx102_0⟩ := Kd.at_int HR1.out x5_1 p102 q102
        cases e102
        replace p102 := eq_true p102
        replace q102 := eq_true q102
        go_wp2
        repeat (go_quiet (fail); try go_wp2)
        go_ret
        exact ⟨zP, zD⟩
      ·rw [if_neg c6] at H
       exact absurd H (by simp)
     ·rw [if_neg c5] at H
      exact absurd H (by simp)
    ·rw [if_neg c4] at H
     have c4b0 : decide (x5_1 < (l0.length : Int)) = false := decide_eq_false c4
     clear c4
     obtain rfl := sI H
     go_wp2
     repeat (go_quiet (fail); try go_wp2)
     go_ret
     exact ⟨zP, zD⟩
 ·rw [if_neg c3] at H
  have c3b0 : ((l0.length : Int) == (l1.length : Int)) = false := beq_eq_false_iff_ne.mpr c3
  have c3b1 : ((l0.length : Int) != (l1.length : Int)) = true := bne_iff_ne.mpr c3
  have c3b2 : (l0.length == l1.length) = false := by first | simpa using c3 | (simp at c3 ⊢; omega)
  obtain rfl := sI H
  go_enter Try.func12, Try.ntmps12
  go_wp2
  repeat (go_quiet (fail); try go_wp2)
  go_ret
  exact ⟨zP, zD⟩

/-! ### hangul_Apart: function 13, by hand (alt.hangul.Apart.T) -/
/-- A new row in a block of some type (an array's, or a slice's own). -/
theorem new_RT {w w1 : World} {k : IntKind} {t : TypeId} (cs : List Int) (xs : List Int) (c : Nat) (hd : Below w.heap.size w w1) (hx : xs = cs.take xs.length) (hl : xs.length ≤ c) (hc : cs.length = c) (hm : c ≤ maxLen) :
    Kd.R (Kd.int k) t (w1.alloc (.cells (cs.map (Value.int k)).toArray t)) w.heap.size (fun _ => True) (.slice (some ⟨w1.heap.size, 0, none⟩) xs.length c) xs := by
  refine Kd.R_of_own (enc := Value.int k) (h1 := fun _ => rfl) ⟨by simp [encs], .inr ⟨w1.heap.size, c, _, rfl, hd.size, heap_alloc_new w1 _, hl, hm, by simp [hc], ?_⟩⟩ (fun _ _ => trivial)
  rw [Nat.mul_one, List.toList_toArray, ← List.map_take, ← hx]
  rfl
theorem run_room_T {P : Program} {w : World} (t ty e T : TypeId) (i : TypeInfo) (ht : P.underlying t = some (.slice e)) (hi : P.info? e = some i)
    (g sLen sCap : Nat) (cur : Array Value) (hg : w.heap[g]? = some (.cells cur T (0, 0)))
    (a : Addr) (m c : Nat) (news : List Value) (hl : news.length = m * i.size) (hnews : ∀ j u, news[j]? = some u → w.cell? (a.add j) = some u) (h1 : ∀ u ∈ news, u.oneCell' = true)
    (hroom : sLen + m ≤ sCap) (hfit : sLen * i.size + news.length ≤ cur.size) :
    (Builtin.append_ #[t, t] ty #[.slice (some ⟨g, 0, none⟩) sLen sCap, .slice (some a) m c]).run P w = .ok (.slice (some ⟨g, 0, none⟩) (sLen + m) sCap) (w.setRow g (cur.toList.take (sLen * i.size) ++ news ++ cur.toList.drop (sLen * i.size + news.length)).toArray) := by
  have hf := run_firstCells_some (P := P) w i.size m a m c news hl hnews
  have hst := run_storeCells_at P g (sLen * i.size) T news 0 cur w hg (by simpa using hfit) h1
  simp only [Nat.add_zero] at hst
  simp [Builtin.append_, run_underlying ht, sizeOf, typeInfo, hi, Builtin.lenOf, hroom, hf, Addr.add_lit, hst]
/-- append(v, x) onto a row in a block of any type. -/
theorem R_append_T {P : Program} {ops : Array Oper} {rest : List Oper} {o : Oper} {a : Act} {Q : Exit → Act → World → Prop} {k : IntKind} {w0 W : World} (T : TypeId) (base : Nat) (hgd : o.guard = none) (s x : Operand) (t e : TypeId) (bytes : Nat)
    (ho : o.op = .call { callee := .builtin .append, args := #[s, x], argTypes := #[t, t] })
    (ht : P.underlying t = some (.slice e)) (hinfo : (P.info? e).map (fun i => (i.zero, i.size, i.bytes)) = some (some (.int k 0), 1, bytes)) (hb0 : 0 < bytes)
    (v : Value) (xs : List Int) (p : Int) (ok : Nat → Prop) (hs : a.eval s = v) (hx : a.eval x = .slice (some ⟨W.heap.size, 0, none⟩) 1 1) (hfresh : ∀ k, W.heap.size ≤ k → ok k)
    (HO : (Kd.int k).R T W base ok v xs) (HB : Below base w0 W) (hbase : base ≤ W.heap.size) (hl : (xs.length + 1) * bytes ≤ 140737488355328)
    (h : ∀ v1 w1 T1, (Kd.int k).R T1 w1 base ok v1 (xs ++ [p]) → Below base w0 w1 → W.grownBy w1 v.ownBlock → (v1.ownBlock = v.ownBlock ∨ ∃ b, v1.ownBlock = some b ∧ W.heap.size ≤ b) → wpList P ops Q rest (a.put o.dst v1) w1) :
    wpList P ops Q (o :: rest) a (W.alloc (.cells #[.int k p] e)) := by
  obtain ⟨i0, hi, hzz⟩ := Option.map_eq_some_iff.1 hinfo
  simp only [Prod.mk.injEq] at hzz
  obtain ⟨hz0, hz1, hz2⟩ := hzz
  have hok := HO.1
  have hown := Kd.own_of_R (enc := Value.int k) (h1 := fun _ => rfl) HO
  have hlen : xs.length + 1 ≤ 140737488355328 := Nat.le_trans (Nat.le_mul_of_pos_right _ hb0) hl
  have henc : encs (Value.int k) (xs ++ [p]) = encs (Value.int k) xs ++ [.int k p] := by simp [encs]
  have hnew : ∀ (j : Nat) (u : Value), [Value.int k p][j]? = some u → (W.alloc (.cells #[.int k p] e)).cell? ((⟨W.heap.size, 0, none⟩ : Addr).add j) = some u := by
    have := World.news_of_block (cs := #[Value.int k p]) (t := e) (fr := (0, 0)) (heap_alloc_new W (.cells #[Value.int k p] e))
    simpa using this
  have hone : ∀ u ∈ [Value.int k p], u.oneCell' = true := by
    intro u hu
    rw [List.mem_singleton] at hu
    rw [hu]
    rfl
  have fin : ∀ v1 w1 T1, w1.ownsRow base T1 1 v1 (xs.length + 1) (encs (Value.int k) xs ++ [.int k p]) → (W.alloc (.cells #[.int k p] e)).grownBy w1 v.ownBlock → (v1.ownBlock = v.ownBlock ∨ ∃ b, v1.ownBlock = some b ∧ W.heap.size ≤ b) → wpList P ops Q rest (a.put o.dst v1) w1 := by
    intro v1 w1 T1 h1 hg hat
    refine h v1 w1 T1 (Kd.R_of_own (enc := Value.int k) (h1 := fun _ => rfl) (by rw [henc]; simpa using h1) (fun q hq => ?_)) ((HB.alloc hbase _).grown hg (by simp; omega) (own_base hown)) (World.grownBy.trans (World.grownBy_alloc W _ _) hg) hat
    rcases hat with hat | ⟨b, hb, hle⟩
    · exact hok q (by rw [← hat]; exact hq)
    · rw [hb] at hq
      rw [← Option.some.inj hq]
      exact hfresh b hle
  rcases (hown.alloc (.cells #[.int k p] e)).2 with ⟨hv, hn⟩ | ⟨g, cap, cur, hv, hbg, hg, hnc, hcm, hcs, htk⟩
  · have hx0 : xs = [] := List.eq_nil_of_length_eq_zero hn
    refine wpList_append_own_at _ hgd s x t ho base e i0 (.int k 0) 1 bytes ht hi hz0 hz1 hz2 rfl (by omega) v 0 [] hs (by rw [hv]; exact World.ownsRow_nil _ base e 1) ⟨W.heap.size, 0, none⟩ 1 1 [.int k p] hx rfl hnew hone (by unfold maxLen; omega) (by rw [hx0] at hl; simpa using hl) (by simp; omega) ?_
    intro v' w' h2 h3 _ h5
    refine fin v' w' e (by rw [hx0]; simpa [encs] using h2) h3 ?_
    rcases h5 with h5 | h5
    · exact .inl h5
    · exact .inr ⟨_, h5, by simp⟩
  · subst hv
    refine wpList_plain hgd fun K hK => ?_
    by_cases hroom : xs.length + 1 ≤ cap
    · have hr := run_room_T (P := P) (w := W.alloc (.cells #[.int k p] e)) t o.type e T i0 ht hi g xs.length cap cur hg ⟨W.heap.size, 0, none⟩ 1 1 [.int k p] (by rw [hz1]; rfl) hnew hone hroom (by rw [hz1, hcs]; simp; omega)
      unfold Oper.wp execOp
      simp only [ho, resolve, invoke, builtin, Sem.run_bind, Sem.run_pure, Result.andThen_ok, List.map_toArray, List.map_cons, List.map_nil, hs, hx, hr]
      refine hK _ _ (fin _ _ T ⟨by simp [encs], .inr ⟨g, cap, _, rfl, hbg, setRow_heap _ g cur _ T _ hg, hroom, hcm, ?_, ?_⟩⟩ ⟨rfl, rfl, rfl, by simp, fun q _ hq => setRow_other _ g q _ (fun e_ => hq (by simp [Value.ownBlock, e_]))⟩ (.inl rfl))
      · rw [hz1]
        simp only [List.size_toArray, List.length_append, List.length_take, List.length_drop, Array.length_toList, List.length_cons, List.length_nil]
        omega
      · rw [hz1]
        simp only [Nat.mul_one] at htk ⊢
        rw [htk]
        have e2 : xs.length + 1 = (encs (Value.int k) xs ++ [Value.int k p]).length := by simp [encs]
        rw [e2, List.toList_toArray]
        exact List.take_left
    · have holds : ∀ j u, (encs (Value.int k) xs)[j]? = some u → (W.alloc (.cells #[.int k p] e)).cell? ((⟨g, 0, none⟩ : Addr).add j) = some u := (hown.alloc (.cells #[.int k p] e)).cells (g := g) rfl
      obtain ⟨v', w', hr, r1, r2⟩ := run_append_arg_grows (P := P) (W.alloc (.cells #[.int k p] e)) t o.type e i0 (.int k 0) 1 bytes ht hi hz0 hz1 hz2 rfl (by omega) ⟨g, 0, none⟩ xs.length cap (encs (Value.int k) xs) (by simp [encs]) holds ⟨W.heap.size, 0, none⟩ 1 1 [.int k p] rfl hnew (by omega) (by unfold maxLen; omega) hl
      unfold Oper.wp execOp
      simp only [ho, resolve, invoke, builtin, Sem.run_bind, Sem.run_pure, Result.andThen_ok, List.map_toArray, List.map_cons, List.map_nil, hs, hx, hr]
      refine hK _ _ (fin v' w' e ⟨r1.1, ?_⟩ ⟨r2.os, r2.tape, r2.output, r2.size, fun q hq _ => r2.block q hq (by simp)⟩ ?_)
      · rcases r1.2 with h6 | ⟨g2, cap2, cur2, h7, h8, h9⟩
        · exact .inl h6
        · exact .inr ⟨g2, cap2, cur2, h7, Nat.le_trans hbase (Nat.le_trans (by simp) h8), h9⟩
      · rcases r1.2 with ⟨h6, h7⟩ | ⟨g2, cap2, cur2, h7, h8, _⟩
        · omega
        · refine .inr ⟨g2, by rw [h7]; rfl, Nat.le_trans (by simp) h8⟩
def hangul_Apart.f (a0 : Int) : Option (List Int) := if a0 ≥ 44032 ∧ a0 ≤ 55203 then (if (a0 - 44032) % 28 = 0 then some [4352 + (a0 - 44032) / 28 / 21, 4449 + (a0 - 44032) / 28 % 21] else some [4352 + (a0 - 44032) / 28 / 21, 4449 + (a0 - 44032) / 28 % 21, 4519 + (a0 - 44032) % 28]) else some [a0]
set_option maxHeartbeats 8000000 in
set_option maxRecDepth 100000 in
theorem hangul_Apart.calls (a0 : Int) (r : List Int) (w : World) (h : hangul_Apart.f a0 = some r) :
    Calls Try.prog 13 #[.int .i32 a0] w fun e w' => ∃ (T_ : TypeId) (v0_ : Value), e = .returned (v0_) ∧ Kd.R (Kd.int .i32) T_ w' w.heap.size (fun _ => True) (v0_) (r) ∧ Below w.heap.size w w' := by
  have H := h
  clear h
  unfold hangul_Apart.f at H
  by_cases c : a0 ≥ 44032 ∧ a0 ≤ 55203
  · rw [if_pos c] at H
    have A : hangul_Syllable.f a0 = some true := by
      unfold hangul_Syllable.f
      rw [if_pos c.1]
      simp [c.2]
    have A' := Aside0.mk A
    clear A
    obtain ⟨hb0, hb1⟩ := c
    have hb0 : 44032 ≤ a0 := hb0
    by_cases c2 : (a0 - 44032) % 28 = 0
    · rw [if_pos c2] at H
      obtain rfl := Option.some.inj H
      have h2 : ((a0 - 44032) % 28 == 0) = true := by simp [c2]
      clear c2 H
      go_enter Try.func13, Try.ntmps13
      go_wp2_with fail
      (with_reducible refine (hangul_Syllable.calls a0 _ _ A'.out).mono ?_)
      rintro e w1 ⟨rfl, hd⟩
      have HD := Aside0.mk hd
      clear hd
      go_wp2
      go_ret
      exact ⟨_, _, rfl, new_RT [4352 + (a0 - 44032) / 28 / 21, 4449 + (a0 - 44032) / 28 % 21, 4519 + (a0 - 44032) % 28] [4352 + (a0 - 44032) / 28 / 21, 4449 + (a0 - 44032) / 28 % 21] 3 HD.out.below rfl (Nat.le_of_ble_eq_true rfl) rfl (Nat.le_of_ble_eq_true rfl), below_alloc HD.out.below _⟩
    · rw [if_neg c2] at H
      obtain rfl := Option.some.inj H
      have h2 : ((a0 - 44032) % 28 == 0) = false := by simpa using c2
      clear c2 H
      go_enter Try.func13, Try.ntmps13
      go_wp2_with fail
      (with_reducible refine (hangul_Syllable.calls a0 _ _ A'.out).mono ?_)
      rintro e w1 ⟨rfl, hd⟩
      have HD := Aside0.mk hd
      clear hd
      go_wp2
      go_ret
      exact ⟨_, _, rfl, new_RT [4352 + (a0 - 44032) / 28 / 21, 4449 + (a0 - 44032) / 28 % 21, 4519 + (a0 - 44032) % 28] [4352 + (a0 - 44032) / 28 / 21, 4449 + (a0 - 44032) / 28 % 21, 4519 + (a0 - 44032) % 28] 3 HD.out.below rfl (Nat.le_of_ble_eq_true rfl) rfl (Nat.le_of_ble_eq_true rfl), below_alloc HD.out.below _⟩
  · rw [if_neg c] at H
    have A : hangul_Syllable.f a0 = some false := by
      unfold hangul_Syllable.f
      by_cases h1 : a0 ≥ 44032
      · rw [if_pos h1]
        have : ¬ a0 ≤ 55203 := fun h2 => c ⟨h1, h2⟩
        simp [this]
      · rw [if_neg h1]
    have A' := Aside0.mk A
    clear A c
    obtain rfl := Option.some.inj H
    go_enter Try.func13, Try.ntmps13
    go_wp2_with fail
    (with_reducible refine (hangul_Syllable.calls a0 _ _ A'.out).mono ?_)
    rintro e w1 ⟨rfl, hd⟩
    have HD := Aside0.mk hd
    clear hd
    go_wp2
    go_ret
    exact ⟨_, _, rfl, new_RT [a0] [a0] 1 HD.out.below rfl (Nat.le_of_ble_eq_true rfl) rfl (Nat.le_of_ble_eq_true rfl), below_alloc HD.out.below _⟩

/-! ### hangul_within: function 21 -/
def hangul_within.f (a0 : Int) (a1 : Int) (a2 : Int) : Option (Bool) := if a0 ≥ a1 then (some (decide (a0 < (wrap32 (a1 + a2))))) else (some false)
set_option maxHeartbeats 8000000 in
set_option maxRecDepth 100000 in
theorem hangul_within.calls (a0 : Int) (a1 : Int) (a2 : Int) (r : Bool) (w : World) (h : hangul_within.f a0 a1 a2 = some r) :
  Calls Try.prog 21 #[.int .i32 a0, .int .i32 a1, .int .i32 a2] w fun e w' => e = .returned (.bool r) ∧ Drawn0 w w' := by
 have H := h
 clear h
 unfold hangul_within.f at H
 by_cases c4 : a0 ≥ a1
 ·rw [if_pos c4] at H
  have c4b0 : decide (a1 ≤ a0) = true := decide_eq_true c4
  clear c4
  obtain rfl := sI H
  go_enter Try.func21, Try.ntmps21
  go_wp2
  go_ret
  exact ⟨zP, zD⟩
 ·rw [if_neg c4] at H
  have c4b0 : decide (a1 ≤ a0) = false := decide_eq_false c4
  clear c4
  obtain rfl := sI H
  go_enter Try.func21, Try.ntmps21
  go_wp2
  go_ret
  exact ⟨zP, zD⟩

/-! ### hangul_Part: function 10 -/
def hangul_Part.j0 : Nat → Int → Bool → Option (Int)
 | 0, _, _ => none
 | k + 1, x0, x12 => if x12 = true then (some 4) else ((hangul_Syllable.f x0).bind fun t107 => (if t107 = true then (some 5) else (some 0)))
def hangul_Part.f (k : Nat) (a0 : Int) : Option (Int) := (hangul_within.f a0 4352 19).bind fun t103 => (if t103 = true then (some 1) else ((hangul_within.f a0 4449 21).bind fun t104 => (if t104 = true then (some 2) else ((hangul_within.f a0 4520 27).bind fun t105 => (if t105 = true then (some 3) else ((hangul_Syllable.f a0).bind fun t106 => (if t106 = true then (hangul_Part.j0 k a0 ((Int.tmod (wrap32 (a0 - 44032)) 28) == 0)) else (hangul_Part.j0 k a0 false))))))))
theorem hangul_Part.mono_l : ∀ k, (∀ y0 y1, LeO (hangul_Part.j0 k y0 y1) (hangul_Part.j0 (k + 1) y0 y1))
 | 0 => fun _ _ r h => by simp [hangul_Part.j0] at h
 | k + 1 => by
  have ih0 := hangul_Part.mono_l k
  ·intro y0 y1
   unfold hangul_Part.j0
   repeat' first
   | (with_reducible exact ih0 _ _)
   | (with_reducible exact LeO.refl _)
   | exact ih0 _ _
   | exact LeO.none _
   | refine LeO.ite ?_ ?_
   | refine LeO.bind ?_ (fun _ => ?_)
theorem hangul_Part.mono : ∀ a0 k, LeO (hangul_Part.f k a0) (hangul_Part.f (k + 1) a0) := by
 intro a0 k
 have ih0 := hangul_Part.mono_l k
 unfold hangul_Part.f
 repeat' first
   | (with_reducible exact ih0 _ _)
   | (with_reducible exact LeO.refl _)
   | exact ih0 _ _
   | exact LeO.none _
   | refine LeO.ite ?_ ?_
   | refine LeO.bind ?_ (fun _ => ?_)
set_option maxHeartbeats 8000000 in
set_option maxRecDepth 100000 in
theorem hangul_Part.calls (k : Nat) (a0 : Int) (r : Int) (w : World) (h : hangul_Part.f k a0 = some r) :
  Calls Try.prog 10 #[.int .i32 a0] w fun e w' => e = .returned (.int .i64 r) ∧ Drawn0 w w' := by
 have H := h
 clear h
 unfold hangul_Part.f at H
 obtain ⟨t103, A2, H⟩ := zO H
 by_cases c3 : t103 = true
 ·subst c3
  rw [if_pos rfl] at H
  obtain rfl := sI H
  go_enter Try.func10, Try.ntmps10
  go_wp2_with (first | ((with_reducible refine gate_callee (f := 21) rfl ?_); refine goesL_ (some 5) rfl rfl Try.func21 zK rfl #[.int .i32 a0, .int .i32 4352, .int .i32 19] rfl zM ?_; (with_reducible refine (hangul_within.calls a0 4352 19 true _ A2.out).mono ?_); rintro e w' ⟨rfl, ⟨nd, rfl⟩⟩; (try clear A2); refine ⟨_, rfl, ?_⟩))
  go_ret
  exact ⟨zP, zD⟩
 ·replace c3 := Bool.eq_false_iff.mpr c3
  subst c3
  rw [if_neg (show ¬ (false = true) by decide)] at H
  obtain ⟨t104, A4, H⟩ := zO H
  by_cases c5 : t104 = true
  ·subst c5
   rw [if_pos rfl] at H
   obtain rfl := sI H
   go_enter Try.func10, Try.ntmps10
   go_wp2_with (first | ((with_reducible refine gate_callee (f := 21) rfl ?_); refine goesL_ (some 5) rfl rfl Try.func21 zK rfl #[.int .i32 a0, .int .i32 4352, .int .i32 19] rfl zM ?_; (with_reducible refine (hangul_within.calls a0 4352 19 false _ A2.out).mono ?_); rintro e w' ⟨rfl, ⟨nd, rfl⟩⟩; (try clear A2); refine ⟨_, rfl, ?_⟩) | ((with_reducible refine gate_callee (f := 21) rfl ?_); refine goesL_ (some 8) rfl rfl Try.func21 zK rfl #[.int .i32 a0, .int .i32 4449, .int .i32 21] rfl zM ?_; (with_reducible refine (hangul_within.calls a0 4449 21 true _ A4.out).mono ?_); rintro e w' ⟨rfl, ⟨nd, rfl⟩⟩; (try clear A4); refine ⟨_, rfl, ?_⟩))
   go_ret
   exact ⟨zP, zD⟩
  ·replace c5 := Bool.eq_false_iff.mpr c5
   subst c5
   rw [if_neg (show ¬ (false = true) by decide)] at H
   obtain ⟨t105, A6, H⟩ := zO H
   by_cases c7 : t105 = true
   ·subst c7
    rw [if_pos rfl] at H
    obtain rfl := sI H
    go_enter Try.func10, Try.ntmps10
    go_wp2_with (first | ((with_reducible refine gate_callee (f := 21) rfl ?_); refine goesL_ (some 5) rfl rfl Try.func21 zK rfl #[.int .i32 a0, .int .i32 4352, .int .i32 19] rfl zM ?_; (with_reducible refine (hangul_within.calls a0 4352 19 false _ A2.out).mono ?_); rintro e w' ⟨rfl, ⟨nd, rfl⟩⟩; (try clear A2); refine ⟨_, rfl, ?_⟩) | ((with_reducible refine gate_callee (f := 21) rfl ?_); refine goesL_ (some 8) rfl rfl Try.func21 zK rfl #[.int .i32 a0, .int .i32 4449, .int .i32 21] rfl zM ?_; (with_reducible refine (hangul_within.calls a0 4449 21 false _ A4.out).mono ?_); rintro e w' ⟨rfl, ⟨nd, rfl⟩⟩; (try clear A4); refine ⟨_, rfl, ?_⟩) | ((with_reducible refine gate_callee (f := 21) rfl ?_); refine goesL_ (some 11) rfl rfl Try.func21 zK rfl #[.int .i32 a0, .int .i32 4520, .int .i32 27] rfl zM ?_; (with_reducible refine (hangul_within.calls a0 4520 27 true _ A6.out).mono ?_); rintro e w' ⟨rfl, ⟨nd, rfl⟩⟩; (try clear A6); refine ⟨_, rfl, ?_⟩))
    go_ret
    exact ⟨zP, zD⟩
   ·replace c7 := Bool.eq_false_iff.mpr c7
    subst c7
    rw [if_neg (show ¬ (false = true) by decide)] at H
    have HC8 := aM H
    clear H
    go_enter Try.func10, Try.ntmps10
    go_upto_region 7 with (first | ((with_reducible refine gate_callee (f := 21) rfl ?_); refine goesL_ (some 5) rfl rfl Try.func21 zK rfl #[.int .i32 a0, .int .i32 4352, .int .i32 19] rfl zM ?_; (with_reducible refine (hangul_within.calls a0 4352 19 false _ A2.out).mono ?_); rintro e w' ⟨rfl, ⟨nd, rfl⟩⟩; (try clear A2); refine ⟨_, rfl, ?_⟩) | ((with_reducible refine gate_callee (f := 21) rfl ?_); refine goesL_ (some 8) rfl rfl Try.func21 zK rfl #[.int .i32 a0, .int .i32 4449, .int .i32 21] rfl zM ?_; (with_reducible refine (hangul_within.calls a0 4449 21 false _ A4.out).mono ?_); rintro e w' ⟨rfl, ⟨nd, rfl⟩⟩; (try clear A4); refine ⟨_, rfl, ?_⟩) | ((with_reducible refine gate_callee (f := 21) rfl ?_); refine goesL_ (some 11) rfl rfl Try.func21 zK rfl #[.int .i32 a0, .int .i32 4520, .int .i32 27] rfl zM ?_; (with_reducible refine (hangul_within.calls a0 4520 27 false _ A6.out).mono ?_); rintro e w' ⟨rfl, ⟨nd, rfl⟩⟩; (try clear A6); refine ⟨_, rfl, ?_⟩))
    (try simp only [Act.put, List.setIfInBounds_toArray, List.set_cons_zero, List.set_cons_succ])
    go_cut [12] (fun v12 wc => ∃ (kq : Nat) (x12_7 : Bool), v12 = .bool x12_7 ∧ Aside0 (hangul_Part.j0 kq a0 x12_7 = some r) ∧ Aside0 (kq ≤ k) ∧ Drawn0 w wc)
    case first =>
     have H := HC8.out
     clear HC8
     obtain ⟨t106, A9, H⟩ := zO H
     by_cases c10 : t106 = true
     ·subst c10
      rw [if_pos rfl] at H
      have H' := aM H
      clear H
      go_wp2_with (first | ((with_reducible refine gate_callee (f := 8) rfl ?_); refine goesL_ (some 14) rfl rfl Try.func8 zK rfl #[.int .i32 a0] rfl zM ?_; (with_reducible refine (hangul_Syllable.calls a0 true _ A9.out).mono ?_); rintro e w' ⟨rfl, ⟨nd, rfl⟩⟩; (try clear A9); refine ⟨_, rfl, ?_⟩))
      go_meet
      case rel => exact ⟨_, (((Int.tmod (wrap32 (a0 - 44032)) 28) == 0)), zP, H', ⟨by first | omega | exact Nat.le_refl _⟩, zD⟩
     ·replace c10 := Bool.eq_false_iff.mpr c10
      subst c10
      rw [if_neg (show ¬ (false = true) by decide)] at H
      have H' := aM H
      clear H
      go_wp2_with (first | ((with_reducible refine gate_callee (f := 8) rfl ?_); refine goesL_ (some 14) rfl rfl Try.func8 zK rfl #[.int .i32 a0] rfl zM ?_; (with_reducible refine (hangul_Syllable.calls a0 false _ A9.out).mono ?_); rintro e w' ⟨rfl, ⟨nd, rfl⟩⟩; (try clear A9); refine ⟨_, rfl, ?_⟩))
      go_meet
      case rel => exact ⟨_, (false), zP, H', ⟨by first | omega | exact Nat.le_refl _⟩, zD⟩
    case rest =>
     clear HC8
     try clear c1
     try clear c2
     try clear p2
     try clear c3
     try clear p3
     try clear c5
     try clear c7
     try clear c8
     try clear c10
     obtain ⟨kq, x12_7, rfl, HA, HJ7, ⟨mc7, rfl⟩⟩ := hcut
     cases kq with
     | zero => exact absurd HA.out (by simp [hangul_Part.j0])
     | succ kj7 =>
      have H := HA.out
      clear HA
      simp only [hangul_Part.j0] at H
      by_cases c11 : x12_7 = true
      ·subst c11
       rw [if_pos rfl] at H
       obtain rfl := sI H
       go_wp2
       go_ret
       exact ⟨zP, zD⟩
      ·replace c11 := Bool.eq_false_iff.mpr c11
       subst c11
       rw [if_neg (show ¬ (false = true) by decide)] at H
       obtain ⟨t107, A12, H⟩ := zO H
       by_cases c13 : t107 = true
       ·subst c13
        rw [if_pos rfl] at H
        obtain rfl := sI H
        go_wp2_with (first | ((with_reducible refine gate_callee (f := 8) rfl ?_); refine goesL_ (some 23) rfl rfl Try.func8 zK rfl #[.int .i32 a0] rfl zM ?_; (with_reducible refine (hangul_Syllable.calls a0 true _ A12.out).mono ?_); rintro e w' ⟨rfl, ⟨nd, rfl⟩⟩; (try clear A12); refine ⟨_, rfl, ?_⟩))
        go_ret
        exact ⟨zP, zD⟩
       ·replace c13 := Bool.eq_false_iff.mpr c13
        subst c13
        rw [if_neg (show ¬ (false = true) by decide)] at H
        obtain rfl := sI H
        go_wp2_with (first | ((with_reducible refine gate_callee (f := 8) rfl ?_); refine goesL_ (some 23) rfl rfl Try.func8 zK rfl #[.int .i32 a0] rfl zM ?_; (with_reducible refine (hangul_Syllable.calls a0 false _ A12.out).mono ?_); rintro e w' ⟨rfl, ⟨nd, rfl⟩⟩; (try clear A12); refine ⟨_, rfl, ?_⟩))
        go_ret
        exact ⟨zP, zD⟩

/-! ### hangul_Join: function 16, by hand (hangul.Join.tpl) -/
def hangul_Join.f (k : Nat) (a0 : Int) (a1 : Int) : Option (Int × Bool) := (hangul_Part.f k a0).bind fun t1 => (hangul_Part.f k a1).bind fun t2 => (if t1 = 1 ∧ t2 = 2 then some (wrap32 (44032 + wrap32 (wrap32 (wrap32 (wrap32 (wrap32 (a0 - 4352) * 21) + a1) - 4449) * 28)), true) else if t1 = 4 ∧ t2 = 3 then some (wrap32 (wrap32 (wrap32 (a0 + a1) - 4520) + 1), true) else some (0, false))
theorem hangul_Join.mono : ∀ a0 a1 k, LeO (hangul_Join.f k a0 a1) (hangul_Join.f (k + 1) a0 a1) := by
  intro a0 a1 k
  unfold hangul_Join.f
  repeat' first
      | exact hangul_Part.mono _ _
      | exact LeO.refl _
      | refine LeO.ite ?_ ?_
      | refine LeO.bind ?_ (fun _ => ?_)
set_option maxHeartbeats 8000000 in
set_option maxRecDepth 100000 in
theorem hangul_Join.calls (k : Nat) (a0 : Int) (a1 : Int) (r1 : Int) (r2 : Bool) (w : World) (h : hangul_Join.f k a0 a1 = some (r1, r2)) :
    Calls Try.prog 16 #[.int .i32 a0, .int .i32 a1] w fun e w' => e = .returned (.tuple #[.int .i32 r1, .bool r2]) ∧ Drawn0 w w' := by
  have H := h
  clear h
  unfold hangul_Join.f at H
  replace H := Option.bind_eq_some_iff.mp H
  obtain ⟨t1, A1, H⟩ := H
  replace H := Option.bind_eq_some_iff.mp H
  obtain ⟨t2, A2, H⟩ := H
  have A1' := Aside0.mk A1
  have A2' := Aside0.mk A2
  clear A1 A2
  have hsz : ∀ w, (sizeOf 3).run Try.prog w = .ok 1 w := fun w => by kernel_rfl
  have E1 := fun (w : World) => run_eqA2 (P := Try.prog) w 36 3 Try.underlying36 Try.underlying3 hsz t1 t2 1 2
  have E2 := fun (w : World) => run_eqA2 (P := Try.prog) w 36 3 Try.underlying36 Try.underlying3 hsz t1 t2 4 3
  clear hsz
  by_cases c1 : t1 = 1 ∧ t2 = 2
  · rw [if_pos c1] at H
    have b1 : (t1 == 1 && t2 == 2) = true := by simp [c1]
    simp only [b1] at E1
    clear b1 c1
    simp only [Option.some.injEq, Prod.mk.injEq] at H
    obtain ⟨rfl, rfl⟩ := H
    go_enter Try.func16, Try.ntmps16
    go_wp2_with fail
    (with_reducible refine (hangul_Part.calls k a0 t1 _ A1'.out).mono ?_)
    rintro e w' ⟨rfl, ⟨nd, rfl⟩⟩
    go_wp2_with fail
    (with_reducible refine (hangul_Part.calls k a1 t2 _ A2'.out).mono ?_)
    rintro e w' ⟨rfl, ⟨nd, rfl⟩⟩
    go_wp2
    go_ret2
    exact ⟨by first | rfl | (simp; done) | (simp [*]; done), by repeat (first | exact Drawn0.refl _ | apply Drawn0.step)⟩
  · rw [if_neg c1] at H
    have b1 : (t1 == 1 && t2 == 2) = false := by simpa using c1
    simp only [b1] at E1
    clear b1 c1
    by_cases c2 : t1 = 4 ∧ t2 = 3
    · rw [if_pos c2] at H
      have b1 : (t1 == 4 && t2 == 3) = true := by simp [c2]
      simp only [b1] at E2
      clear b1 c2
      simp only [Option.some.injEq, Prod.mk.injEq] at H
      obtain ⟨rfl, rfl⟩ := H
      go_enter Try.func16, Try.ntmps16
      go_wp2_with fail
      (with_reducible refine (hangul_Part.calls k a0 t1 _ A1'.out).mono ?_)
      rintro e w' ⟨rfl, ⟨nd, rfl⟩⟩
      go_wp2_with fail
      (with_reducible refine (hangul_Part.calls k a1 t2 _ A2'.out).mono ?_)
      rintro e w' ⟨rfl, ⟨nd, rfl⟩⟩
      go_wp2
      go_ret2
      exact ⟨by first | rfl | (simp; done) | (simp [*]; done), by repeat (first | exact Drawn0.refl _ | apply Drawn0.step)⟩
    · rw [if_neg c2] at H
      have b1 : (t1 == 4 && t2 == 3) = false := by simpa using c2
      simp only [b1] at E2
      clear b1 c2
      simp only [Option.some.injEq, Prod.mk.injEq] at H
      obtain ⟨rfl, rfl⟩ := H
      go_enter Try.func16, Try.ntmps16
      go_wp2_with fail
      (with_reducible refine (hangul_Part.calls k a0 t1 _ A1'.out).mono ?_)
      rintro e w' ⟨rfl, ⟨nd, rfl⟩⟩
      go_wp2_with fail
      (with_reducible refine (hangul_Part.calls k a1 t2 _ A2'.out).mono ?_)
      rintro e w' ⟨rfl, ⟨nd, rfl⟩⟩
      go_wp2
      go_ret2
      exact ⟨by first | rfl | (simp; done) | (simp [*]; done), by repeat (first | exact Drawn0.refl _ | apply Drawn0.step)⟩

/-! ### hangul_Whole: function 18 -/
def hangul_Whole.l0 : Nat → List Int → List Int → Int → Int → Option (List Int)
 | 0, _, _, _, _ => none
 | k + 1, x3, x9, x10, x11 => if x11 < x10 then (if 0 ≤ x11 then (if x11 < (x9.length : Int) then (if (wrap64 ((x3.length : Int) - 1)) ≥ 0 then (if 0 ≤ (wrap64 ((x3.length : Int) - 1)) then (if (wrap64 ((x3.length : Int) - 1)) < (x3.length : Int) then ((hangul_Join.f k (rd x3 (wrap64 ((x3.length : Int) - 1))) (rd x9 x11)).bind fun bt110 => (if bt110.2 = true then (hangul_Whole.l0 k (x3.set ((wrap64 ((x3.length : Int) - 1)) : Int).toNat bt110.1) x9 x10 (wrap64 (x11 + 1))) else (if x3.length < 35184372088832 then (hangul_Whole.l0 k (x3 ++ [rd x9 x11]) x9 x10 (wrap64 (x11 + 1))) else (none)))) else (none)) else (none)) else (if x3.length < 35184372088832 then (hangul_Whole.l0 k (x3 ++ [rd x9 x11]) x9 x10 (wrap64 (x11 + 1))) else (none))) else (none)) else (none)) else (some x3)
def hangul_Whole.f (k : Nat) (l0 : List Int) : Option (List Int) := hangul_Whole.l0 k ([] : List Int) l0 (l0.length : Int) 0
theorem hangul_Whole.mono_l : ∀ k, (∀ y0 y1 y2 y3, LeO (hangul_Whole.l0 k y0 y1 y2 y3) (hangul_Whole.l0 (k + 1) y0 y1 y2 y3))
 | 0 => fun _ _ _ _ r h => by simp [hangul_Whole.l0] at h
 | k + 1 => by
  have ih0 := hangul_Whole.mono_l k
  ·intro y0 y1 y2 y3
   unfold hangul_Whole.l0
   repeat' first
   | (with_reducible exact ih0 _ _ _ _)
   | (with_reducible exact hangul_Join.mono _ _ _)
   | (with_reducible exact LeO.refl _)
   | exact ih0 _ _ _ _
   | exact hangul_Join.mono _ _ _
   | exact LeO.none _
   | refine LeO.ite ?_ ?_
   | refine LeO.bind ?_ (fun _ => ?_)
theorem hangul_Whole.mono : ∀ a0 k, LeO (hangul_Whole.f k a0) (hangul_Whole.f (k + 1) a0) := by
 intro a0 k
 have ih0 := hangul_Whole.mono_l k
 unfold hangul_Whole.f
 repeat' first
   | (with_reducible exact ih0 _ _ _ _)
   | (with_reducible exact hangul_Join.mono _ _ _)
   | (with_reducible exact LeO.refl _)
   | exact ih0 _ _ _ _
   | exact hangul_Join.mono _ _ _
   | exact LeO.none _
   | refine LeO.ite ?_ ?_
   | refine LeO.bind ?_ (fun _ => ?_)
set_option maxHeartbeats 8000000 in
set_option maxRecDepth 100000 in
theorem hangul_Whole.calls (k : Nat) (A0 : Option Addr) (c0 : Nat) (l0 : List Int) (r : List Int) (w : World) (hr0 : Kd.C (Kd.int .i32) w A0 l0.length l0) (hc0 : l0.length ≤ c0) (h : hangul_Whole.f k l0 = some r) :
  Calls Try.prog 18 #[.slice A0 l0.length c0] w fun e w' => ∃ v0_ : Value, e = .returned (v0_) ∧ Kd.R (Kd.int .i32) 21 w' w.heap.size (fun _ => True) v0_ r ∧ Below w.heap.size w w' := by
 have HR0 := aM hr0
 have HC0 := aM hc0
 clear hr0 hc0
 have HB := aM (Below.refl w.heap.size w)
 have H := h
 clear h
 unfold hangul_Whole.f at H
 have H' := aM H
 clear H
 go_enter Try.func18, Try.ntmps18
 go_wp2
 go_loopg [3, 11] k (fun kq v3 v11 w' => ∃ (x3_1 : List Int) (x11_1 : Int), v11 = .int .i64 x11_1 ∧ Aside0 (hangul_Whole.l0 kq x3_1 l0 (l0.length : Int) x11_1 = some r) ∧ Aside0 (kq ≤ k) ∧ Aside0 (Kd.R (Kd.int .i32) 21 w' w.heap.size (fun _ => True) v3 x3_1) ∧ Aside0 (Below w.heap.size w w'))
 case atStart => exact ⟨(([] : List Int)), (0), zP, H', ⟨Nat.le_refl _⟩, ⟨zL⟩, ⟨zB⟩⟩
 case round =>
  clear H'
  try clear c1
  obtain ⟨x3_1, x11_1, rfl, HA, HK1, HO_3, HB⟩ := hrel
  cases gk with
  | zero => exact absurd HA.out (by simp [hangul_Whole.l0])
  | succ k1 =>
   have H := HA.out
   clear HA
   simp only [hangul_Whole.l0] at H
   by_cases c2 : x11_1 < (l0.length : Int)
   ·rw [if_pos c2] at H
    have c2b0 : decide (x11_1 < (l0.length : Int)) = true := decide_eq_true c2
    clear c2
    by_cases c3 : 0 ≤ x11_1
    ·rw [if_pos c3] at H
     have c3b0 : decide (0 ≤ x11_1) = true := decide_eq_true c3
     clear c3
     by_cases c4 : x11_1 < (l0.length : Int)
     ·rw [if_pos c4] at H
      have c4b0 : decide (x11_1 < (l0.length : Int)) = true := decide_eq_true c4
      clear c4
      by_cases c5 : (wrap64 ((x3_1.length : Int) - 1)) ≥ 0
      ·rw [if_pos c5] at H
       have c5b0 : decide (0 ≤ (wrap64 ((x3_1.length : Int) - 1))) = true := decide_eq_true c5
       clear c5
       obtain ⟨ji6, hji6⟩ : ∃ j_ : Int, (wrap64 ((x3_1.length : Int) - 1)) = j_ := ⟨_, rfl⟩
       replace H : (if 0 ≤ (ji6) then (if (ji6) < (x3_1.length : Int) then ((hangul_Join.f k1 (rd x3_1 (ji6)) (rd l0 x11_1)).bind fun bt110 => (if bt110.2 = true then (hangul_Whole.l0 k1 (x3_1.set ((ji6) : Int).toNat bt110.1) l0 (l0.length : Int) (wrap64 (x11_1 + 1))) else (if x3_1.length < 35184372088832 then (hangul_Whole.l0 k1 (x3_1 ++ [rd l0 x11_1]) l0 (l0.length : Int) (wrap64 (x11_1 + 1))) else (none)))) else (none)) else (none)) = some r := by first | (rw [hji6] at H; exact H) | (simp only [hji6] at H ⊢; exact H)
       (try rw [hji6] at c5b0)
       have hji6w : (IntKind.i64.wrap ((x3_1.length : Int) - 1)) = ji6 := (i64_w _).trans hji6
       by_cases c7 : 0 ≤ (ji6)
       ·rw [if_pos c7] at H
        have c7b0 : decide (0 ≤ (ji6)) = true := decide_eq_true c7
        clear c7
        by_cases c8 : (ji6) < (x3_1.length : Int)
        ·rw [if_pos c8] at H
         have c8b0 : decide ((ji6) < (x3_1.length : Int)) = true := decide_eq_true c8
         clear c8
         obtain ⟨⟨t110, t111⟩, A9, H⟩ := zO H
         try dsimp only at H
         by_cases c10 : t111 = true
         ·subst c10
          rw [if_pos rfl] at H
          obtain ⟨y112, hy112⟩ : ∃ y_ : List Int, y_ = (x3_1.set ((ji6) : Int).toNat t110) := ⟨_, rfl⟩
          replace H : (hangul_Whole.l0 k1 y112 l0 (l0.length : Int) (wrap64 (x11_1 + 1))) = some r := zY hy112 H
          have Ny112 := aM hy112
          clear hy112
          have H' := aM H
          clear H
          have p108 : 0 ≤ (x11_1 : Int) := zoA
          have q108 : x11_1 < (l0.length : Int) := zoA
          obtain ⟨ad108, e108, hx108_0⟩ := Kd.at_int HR0.out x11_1 p108 q108
          cases e108
          replace hx108_0 := (HB.out.cell (World.block_lt_of_cell? w _ hx108_0)).trans hx108_0
          replace p108 := eq_true p108
          replace q108 := eq_true q108
          obtain ⟨Ao12, co12, eo12⟩ := Kd.R_slice HO_3.out
          subst eo12
          have p109 : 0 ≤ ((ji6) : Int) := zoA
          have q109 : (ji6) < (x3_1.length : Int) := zoA
          obtain ⟨ad109, e109, hx109_0⟩ := Kd.at_int (Kd.R_reads' HO_3.out).2.2 (ji6) p109 q109
          cases e109
          replace p109 := eq_true p109
          replace q109 := eq_true q109
          go_wp2_with (first | ((with_reducible refine gate_callee (f := 16) rfl ?_); refine goesL_ (some 26) rfl rfl Try.func16 zK rfl #[.int .i32 (rd x3_1 (ji6)), .int .i32 (rd l0 x11_1)] rfl (by (try simp only [List.map_toArray, List.map_cons, List.map_nil]); first | done | (simp only [hji6]; rfl) | rfl | (simp only [List.length_drop, List.length_take]; rfl)) ?_; (with_reducible refine (hangul_Join.calls k1 (rd x3_1 (ji6)) (rd l0 x11_1) t110 true _ A9.out).mono ?_); rintro e w' ⟨rfl, ⟨nd, rfl⟩⟩; refine ⟨_, rfl, ?_⟩; (try (rw [drewN_self wr]; generalize hq_ : World.drewN wr _ = wr; have n0_ : Aside0 (Kd.R (Kd.int .i32) 21 wr w.heap.size (fun _ => True) (.slice (some ad109) x3_1.length co12) x3_1) := ⟨by rw [← hq_]; exact (zR HO_3)⟩; have n1_ : Aside0 (Below w.heap.size w wr) := ⟨by rw [← hq_]; exact zB⟩; clear HO_3 HB hq_; have HO_3 := n0_; have HB := n1_; clear n0_ n1_)); have p11 : 0 ≤ ((ji6) : Int) := zoA; have q11 : ((ji6) : Int) < ((x3_1.length : Int) : Int) := zoA; obtain ⟨go11, co11, eo11, gb11, gl11, cl11, HG11⟩ := Kd.R_form HO_3.out (by omega); (first | cases eo11 | (injection eo11 with ea_ en_ ec_; (first | subst ea_ | (injection ea_ with ea_; subst ea_)); subst ec_; clear en_)); have GB11 := aM gb11; have GG11 := aM HG11; clear gb11 gl11 HG11; (first | simp only [add_plain] at hx109_0 | skip); obtain ⟨hx11_0, hf11_0⟩ := Kd.R_celln 0 HO_3.out ((ji6) : Int) p11 q11; replace p11 := eq_true p11; replace q11 := eq_true q11; obtain ⟨hy13_, hz13_⟩ := Kd.R_celln 0 HO_3.out ((ji6) : Int) (zoA) (zoA); have HP13 := Kd.R_putg HO_3.out ((ji6) : Int) t110) | ((with_reducible refine gate_store (t := 21) (p := 33) rfl ?_); refine store_event (t := 21) (p := 33) (v := ?vo_w14) (w1 := (wr.setCell ⟨go11, ((ji6) : Int).toNat, none⟩ (.int .i32 t110))) ?hg ?ho ?hn ?hr ?_; (case ho => rfl); (case hg => rfl); (case hn => rfl); (case hr => first | (go_simp; done) | (go_simp; rfl)); intro w14 hw; have hg : wr.grownBy w14 (some go11) := (by rw [hw]; exact HP13.2); have hp_ : Kd.R (Kd.int .i32) 21 w14 w.heap.size (fun _ => True) (.slice (some ⟨go11, 0, none⟩) x3_1.length co12) y112 := (by rw [hw, Ny112.out]; exact HP13.1); clear HP13; have n_ := zI (aM (hp_)) (aM ((by rw [hw]; exact below_set (HB.out) GB11.out : Below w.heap.size w w14))); clear HO_3 HB; obtain ⟨HO_3, HB⟩ := n_; clear hg hw hp_))
          go_roundg k1
          case measure => have := HK1.out; omega
          case rel => exact ⟨(y112), (wrap64 (x11_1 + 1)), zP, H', ⟨by have := HK1.out; omega⟩, ⟨zR HO_3⟩, ⟨zB⟩⟩
         ·replace c10 := Bool.eq_false_iff.mpr c10
          subst c10
          rw [if_neg (show ¬ (false = true) by decide)] at H
          by_cases c15 : x3_1.length < 35184372088832
          ·rw [if_pos c15] at H
           have LMc15 := aM c15
           clear c15
           obtain ⟨y113, hy113⟩ : ∃ y_ : List Int, y_ = (x3_1 ++ [rd l0 x11_1]) := ⟨_, rfl⟩
           replace H : (hangul_Whole.l0 k1 y113 l0 (l0.length : Int) (wrap64 (x11_1 + 1))) = some r := zY hy113 H
           have Ny113 := aM hy113
           clear hy113
           have H' := aM H
           clear H
           have p108 : 0 ≤ (x11_1 : Int) := zoA
           have q108 : x11_1 < (l0.length : Int) := zoA
           obtain ⟨ad108, e108, hx108_0⟩ := Kd.at_int HR0.out x11_1 p108 q108
           cases e108
           replace hx108_0 := (HB.out.cell (World.block_lt_of_cell? w _ hx108_0)).trans hx108_0
           replace p108 := eq_true p108
           replace q108 := eq_true q108
           obtain ⟨Ao16, co16, eo16⟩ := Kd.R_slice HO_3.out
           subst eo16
           have p109 : 0 ≤ ((ji6) : Int) := zoA
           have q109 : (ji6) < (x3_1.length : Int) := zoA
           obtain ⟨ad109, e109, hx109_0⟩ := Kd.at_int (Kd.R_reads' HO_3.out).2.2 (ji6) p109 q109
           cases e109
           replace p109 := eq_true p109
           replace q109 := eq_true q109
           go_wp2_with (first | ((with_reducible refine gate_callee (f := 16) rfl ?_); refine goesL_ (some 26) rfl rfl Try.func16 zK rfl #[.int .i32 (rd x3_1 (ji6)), .int .i32 (rd l0 x11_1)] rfl (by (try simp only [List.map_toArray, List.map_cons, List.map_nil]); first | done | (simp only [hji6]; rfl) | rfl | (simp only [List.length_drop, List.length_take]; rfl)) ?_; (with_reducible refine (hangul_Join.calls k1 (rd x3_1 (ji6)) (rd l0 x11_1) t110 false _ A9.out).mono ?_); rintro e w' ⟨rfl, ⟨nd, rfl⟩⟩; refine ⟨_, rfl, ?_⟩) | ((with_reducible refine gate_builtin (b := .append) (xs := #[.tmp 34, .tmp 36]) rfl ?_); at_builtin; refine Kd.R_append (Kd.int .i32) (w0 := w) w.heap.size rfl (.tmp 34) (.tmp 36) 25 21 (.int .i32 0) 4 rfl Try.underlying25 info21 rfl (by decide) (by omega) (.slice (some ad109) x3_1.length co16) x3_1 (rd l0 x11_1) [.int .i32 (rd l0 x11_1)] (fun _ => True) (fun _ => False) rfl rfl ?aP (fun _ hk => hk.elim) ?aF ?aO ?aB ?aS ?aL ?_; (case aP => exact rfl); (case aB => exact zB); (case aF => exact (fun _ _ => trivial)); (case aO => exact (zR HO_3)); (case aS => exact (below_size zB)); (case aL => have := LMc15.out; omega); intro v114 w17 ho hb hg hat; rw [← Ny113.out] at ho; have n_ := zI (aM (hb)) (aM (ho)); clear HB HO_3; obtain ⟨HB, HO115⟩ := n_; clear ho hb hg hat))
           go_roundg k1
           case measure => have := HK1.out; omega
           case rel => exact ⟨(y113), (wrap64 (x11_1 + 1)), zP, H', ⟨by have := HK1.out; omega⟩, ⟨zR HO115⟩, ⟨zB⟩⟩
          ·rw [if_neg c15] at H
           exact absurd H (by simp)
        ·rw [if_neg c8] at H
         exact absurd H (by simp)
       ·rw [if_neg c7] at H
        exact absurd H (by simp)
      ·rw [if_neg c5] at H
       have c5b0 : decide (0 ≤ (wrap64 ((x3_1.length : Int) - 1))) = false := decide_eq_false c5
       clear c5
       by_cases c18 : x3_1.length < 35184372088832
       ·rw [if_pos c18] at H
        have LMc18 := aM c18
        clear c18
        obtain ⟨y116, hy116⟩ : ∃ y_ : List Int, y_ = (x3_1 ++ [rd l0 x11_1]) := ⟨_, rfl⟩
        replace H : (hangul_Whole.l0 k1 y116 l0 (l0.length : Int) (wrap64 (x11_1 + 1))) = some r := zY hy116 H
        have Ny116 := aM hy116
        clear hy116
        have H' := aM H
        clear H
        have p108 : 0 ≤ (x11_1 : Int) := zoA
        have q108 : x11_1 < (l0.length : Int) := zoA
        obtain ⟨ad108, e108, hx108_0⟩ := Kd.at_int HR0.out x11_1 p108 q108
        cases e108
        replace hx108_0 := (HB.out.cell (World.block_lt_of_cell? w _ hx108_0)).trans hx108_0
        replace p108 := eq_true p108
        replace q108 := eq_true q108
        obtain ⟨Ao19, co19, eo19⟩ := Kd.R_slice HO_3.out
        subst eo19
        go_wp2_with (first | ((with_reducible refine gate_builtin (b := .append) (xs := #[.tmp 34, .tmp 36]) rfl ?_); at_builtin; refine Kd.R_append (Kd.int .i32) (w0 := w) w.heap.size rfl (.tmp 34) (.tmp 36) 25 21 (.int .i32 0) 4 rfl Try.underlying25 info21 rfl (by decide) (by omega) (.slice Ao19 x3_1.length co19) x3_1 (rd l0 x11_1) [.int .i32 (rd l0 x11_1)] (fun _ => True) (fun _ => False) rfl rfl ?aP (fun _ hk => hk.elim) ?aF ?aO ?aB ?aS ?aL ?_; (case aP => exact rfl); (case aB => exact zB); (case aF => exact (fun _ _ => trivial)); (case aO => exact (zR HO_3)); (case aS => exact (below_size zB)); (case aL => have := LMc18.out; omega); intro v117 w20 ho hb hg hat; rw [← Ny116.out] at ho; have n_ := zI (aM (hb)) (aM (ho)); clear HB HO_3; obtain ⟨HB, HO118⟩ := n_; clear ho hb hg hat))
        go_roundg k1
        case measure => have := HK1.out; omega
        case rel => exact ⟨(y116), (wrap64 (x11_1 + 1)), zP, H', ⟨by have := HK1.out; omega⟩, ⟨zR HO118⟩, ⟨zB⟩⟩
       ·rw [if_neg c18] at H
        exact absurd H (by simp)
     ·rw [if_neg c4] at H
      exact absurd H (by simp)
    ·rw [if_neg c3] at H
     exact absurd H (by simp)
   ·rw [if_neg c2] at H
    have c2b0 : decide (x11_1 < (l0.length : Int)) = false := decide_eq_false c2
    clear c2
    obtain rfl := sI H
    go_wp2
    go_ret
    exact ⟨_, zE, zR HO_3, zB⟩

/-! ### toponymlaw04_awake: function 15 -/
def toponymlaw04_awake.f (k : Nat)  : Option (Bool) := (hangul_Apart.f 44033).bind fun t119 => ((hangul_Whole.f k (([4352, 4449, 4520, 65] : List Int))).bind fun t125 => ((hangul_Join.f k 65 4449).bind fun bt128 => ((toponymref01_Same.f k t119 (([4352, 4449, 4520] : List Int))).bind fun t133 => (if t133 = true then ((toponymref01_Same.f k t125 (([44033, 65] : List Int))).bind fun t137 => (if t137 = true then (if bt128.2 = true then (some false) else ((hangul_Syllable.f 55203).bind fun t138 => (if t138 = true then ((hangul_Part.f k 44032).bind fun t139 => (some (t139 == 4))) else (some false)))) else (some false))) else (some false)))))
theorem toponymlaw04_awake.mono : ∀ k, LeO (toponymlaw04_awake.f k ) (toponymlaw04_awake.f (k + 1) ) := by
 intro  k
 unfold toponymlaw04_awake.f
 repeat' first
   | (with_reducible exact hangul_Join.mono _ _ _)
   | (with_reducible exact hangul_Part.mono _ _)
   | (with_reducible exact hangul_Whole.mono _ _)
   | (with_reducible exact toponymref01_Same.mono _ _ _)
   | (with_reducible exact LeO.refl _)
   | exact hangul_Join.mono _ _ _
   | exact hangul_Part.mono _ _
   | exact hangul_Whole.mono _ _
   | exact toponymref01_Same.mono _ _ _
   | exact LeO.none _
   | refine LeO.ite ?_ ?_
   | refine LeO.bind ?_ (fun _ => ?_)
set_option maxHeartbeats 8000000 in
set_option maxRecDepth 100000 in
theorem toponymlaw04_awake.calls (k : Nat)  (r : Bool) (w : World) (h : toponymlaw04_awake.f k  = some r) :
  Calls Try.prog 15 #[] w fun e w' => e = .returned (.bool r) ∧ Below w.heap.size w w' := by
 have hT := aM (yes_of toponymlaw04_awake.mono (n := 100) (by decide +kernel) h)
 have HB := aM (Below.refl w.heap.size w)
 have H := h
 clear h
 unfold toponymlaw04_awake.f at H
 obtain ⟨t119, A1, H⟩ := zO H
 obtain ⟨y122, hy122⟩ : ∃ y_ : List Int, y_ = (([4352, 4449, 4520, 65] : List Int)) := ⟨_, rfl⟩
 replace H : ((hangul_Whole.f k y122).bind fun t125 => ((hangul_Join.f k 65 4449).bind fun bt128 => ((toponymref01_Same.f k t119 (([4352, 4449, 4520] : List Int))).bind fun t133 => (if t133 = true then ((toponymref01_Same.f k t125 (([44033, 65] : List Int))).bind fun t137 => (if t137 = true then (if bt128.2 = true then (some false) else ((hangul_Syllable.f 55203).bind fun t138 => (if t138 = true then ((hangul_Part.f k 44032).bind fun t139 => (some (t139 == 4))) else (some false)))) else (some false))) else (some false))))) = some r := zY hy122 H
 have Ny122 := aM hy122
 clear hy122
 obtain ⟨t125, A2, H⟩ := zO H
 obtain ⟨⟨t128, t129⟩, A3, H⟩ := zO H
 try dsimp only at H
 obtain ⟨y130, hy130⟩ : ∃ y_ : List Int, y_ = (([4352, 4449, 4520] : List Int)) := ⟨_, rfl⟩
 replace H : ((toponymref01_Same.f k t119 y130).bind fun t133 => (if t133 = true then ((toponymref01_Same.f k t125 (([44033, 65] : List Int))).bind fun t137 => (if t137 = true then (if t129 = true then (some false) else ((hangul_Syllable.f 55203).bind fun t138 => (if t138 = true then ((hangul_Part.f k 44032).bind fun t139 => (some (t139 == 4))) else (some false)))) else (some false))) else (some false))) = some r := zY hy130 H
 have Ny130 := aM hy130
 clear hy130
 obtain ⟨t133, A4, H⟩ := zO H
 by_cases c5 : t133 = true
 ·subst c5
  rw [if_pos rfl] at H
  obtain ⟨y134, hy134⟩ : ∃ y_ : List Int, y_ = (([44033, 65] : List Int)) := ⟨_, rfl⟩
  replace H : ((toponymref01_Same.f k t125 y134).bind fun t137 => (if t137 = true then (if t129 = true then (some false) else ((hangul_Syllable.f 55203).bind fun t138 => (if t138 = true then ((hangul_Part.f k 44032).bind fun t139 => (some (t139 == 4))) else (some false)))) else (some false))) = some r := zY hy134 H
  have Ny134 := aM hy134
  clear hy134
  obtain ⟨t137, A6, H⟩ := zO H
  by_cases c7 : t137 = true
  ·subst c7
   rw [if_pos rfl] at H
   by_cases c8 : t129 = true
   ·subst c8
    rw [if_pos rfl] at H
    obtain rfl := sI H
    go_enter Try.func15, Try.ntmps15
    go_wp2_with (first | ((with_reducible refine gate_callee (f := 13) rfl ?_); refine goesL_ (some 5) rfl rfl Try.func13 zK rfl #[.int .i32 44033] rfl zM ?_; (with_reducible refine (hangul_Apart.calls 44033 t119 _ A1.out).mono ?_); rintro e w9 ⟨TT_, v120, rfl, ho0, hb⟩; refine ⟨_, rfl, ?_⟩; have n_ := zI (aM (Kd.R_lower ho0 (below_size zB))) (aM (below_step zB hb)); clear HB; obtain ⟨HO121, HB⟩ := n_; (try clear hb); (try clear hk); (try clear ho0)) | ((with_reducible refine gate_dst (N := 6) rfl ?_); (try (refine gate_guard (by rfl) ?_; dsimp only)); refine Kd.R_lit (Kd.int .i32) _ 21 ?hg (N := 6) ?hd (xs := ([4352, 4449, 4520, 65] : List Int)) (inner := [.int .i32 4352, .int .i32 4449, .int .i32 4520, .int .i32 65]) (ok := fun _ => True) (okp := fun _ => True) ?hr ?hp (fun _ hk => hk) trivial (Below.refl _ _) (Nat.le_refl _) (by simp) ?_; (case hd => rfl); (case hg => rfl); (case hr => first | (go_simp; done) | (go_simp; rfl)); (case hp => exact (Reps.one (show Kd.M (Kd.int .i32) _ _ _ 4352 [.int .i32 4352] from rfl) (Reps.one (show Kd.M (Kd.int .i32) _ _ _ 4449 [.int .i32 4449] from rfl) (Reps.one (show Kd.M (Kd.int .i32) _ _ _ 4520 [.int .i32 4520] from rfl) (Reps.one (show Kd.M (Kd.int .i32) _ _ _ 65 [.int .i32 65] from rfl) (Reps.none _ _)))))); intro v123 w10 ho11 hb hg_ hnew_; clear hg_ hnew_; (first | rw [← Ny122.out] at ho11 | (simp only [Int.reduceToNat] at ho11; rw [← Ny122.out] at ho11)); have n_ := zI (aM (Kd.R_elder' (zR HO121) (Kd.R_base ho11) hb)) (zI (aM (Kd.R_lower (Kd.R_new' ho11 (Kd.R_lt (zR HO121))) (below_size zB))) (aM (below_step zB hb))); clear HO121 HB; obtain ⟨HO121, HO124, HB⟩ := n_; clear hb ho11; obtain ⟨Ao12, co12, rfl⟩ := Kd.R_slice HO124.out) | ((with_reducible refine gate_callee (f := 18) rfl ?_); refine goesL_ (some 7) rfl rfl Try.func18 zK rfl #[.slice Ao12 y122.length co12] rfl zM ?_; (with_reducible refine (hangul_Whole.calls k _ _ y122 t125 _ ?side1 ?side2 A2.out).mono ?_); (case side1 => exact zC (Kd.R_reads' HO124.out).2.2); (case side2 => exact (Kd.R_reads' HO124.out).2.1); rintro e w13 ⟨v126, rfl, ho0, hb⟩; refine ⟨_, rfl, ?_⟩; have n_ := zI (aM (Kd.R_elder' (zR HO121) (Kd.R_base ho0) hb)) (zI (aM (Kd.R_elder' (zR HO124) (Kd.R_base ho0) hb)) (zI (aM (Kd.R_lower (Kd.R_new' (Kd.R_new' ho0 (Kd.R_lt (zR HO121))) (Kd.R_lt (zR HO124))) (below_size zB))) (aM (below_step zB hb)))); clear HO121 HO124 HB; obtain ⟨HO121, HO124, HO127, HB⟩ := n_; (try clear hb); (try clear hk); (try clear ho0)) | ((with_reducible refine gate_callee (f := 16) rfl ?_); refine goesL_ (some 9) rfl rfl Try.func16 zK rfl #[.int .i32 65, .int .i32 4449] rfl zM ?_; (with_reducible refine (hangul_Join.calls k 65 4449 t128 true _ A3.out).mono ?_); rintro e w' ⟨rfl, ⟨nd, rfl⟩⟩; refine ⟨_, rfl, ?_⟩) | ((with_reducible refine gate_dst (N := 13) rfl ?_); (try (refine gate_guard (by rfl) ?_; dsimp only)); refine Kd.R_lit (Kd.int .i32) _ 21 ?hg (N := 13) ?hd (xs := ([4352, 4449, 4520] : List Int)) (inner := [.int .i32 4352, .int .i32 4449, .int .i32 4520]) (ok := fun _ => True) (okp := fun _ => True) ?hr ?hp (fun _ hk => hk) trivial (Below.refl _ _) (Nat.le_refl _) (by simp) ?_; (case hd => rfl); (case hg => rfl); (case hr => first | (go_simp; done) | (go_simp; rfl)); (case hp => exact (Reps.one (show Kd.M (Kd.int .i32) _ _ _ 4352 [.int .i32 4352] from rfl) (Reps.one (show Kd.M (Kd.int .i32) _ _ _ 4449 [.int .i32 4449] from rfl) (Reps.one (show Kd.M (Kd.int .i32) _ _ _ 4520 [.int .i32 4520] from rfl) (Reps.none _ _))))); intro v131 w14 ho15 hb hg_ hnew_; clear hg_ hnew_; (first | rw [← Ny130.out] at ho15 | (simp only [Int.reduceToNat] at ho15; rw [← Ny130.out] at ho15)); have n_ := zI (aM (Kd.R_elder' (zR HO121) (Kd.R_base ho15) hb)) (zI (aM (Kd.R_elder' (zR HO124) (Kd.R_base ho15) hb)) (zI (aM (Kd.R_elder' (zR HO127) (Kd.R_base ho15) hb)) (zI (aM (Kd.R_lower (Kd.R_new' (Kd.R_new' (Kd.R_new' ho15 (Kd.R_lt (zR HO121))) (Kd.R_lt (zR HO124))) (Kd.R_lt (zR HO127))) (below_size zB))) (aM (below_step zB hb))))); clear HO121 HO124 HO127 HB; obtain ⟨HO121, HO124, HO127, HO132, HB⟩ := n_; clear hb ho15; obtain ⟨Ao16, co16, rfl⟩ := Kd.R_slice HO121.out; obtain ⟨Ao17, co17, rfl⟩ := Kd.R_slice HO132.out) | ((with_reducible refine gate_callee (f := 12) rfl ?_); refine goesL_ (some 14) rfl rfl Try.func12 zK rfl #[.slice Ao16 t119.length co16, .slice Ao17 y130.length co17] rfl zM ?_; (with_reducible refine (toponymref01_Same.calls k _ _ t119 _ _ y130 true _ ?side1 ?side2 ?side3 ?side4 A4.out).mono ?_); (case side1 => exact zC (Kd.R_reads' HO121.out).2.2); (case side2 => exact (Kd.R_reads' HO121.out).2.1); (case side3 => exact zC (Kd.R_reads' HO132.out).2.2); (case side4 => exact (Kd.R_reads' HO132.out).2.1); rintro e w' ⟨rfl, ⟨nd, rfl⟩⟩; (try clear A4); refine ⟨_, rfl, ?_⟩) | ((with_reducible refine gate_dst (N := 17) rfl ?_); (try (refine gate_guard (by rfl) ?_; dsimp only)); refine Kd.R_lit (Kd.int .i32) _ 21 ?hg (N := 17) ?hd (xs := ([44033, 65] : List Int)) (inner := [.int .i32 44033, .int .i32 65]) (ok := fun _ => True) (okp := fun _ => True) ?hr ?hp (fun _ hk => hk) trivial (Below.refl _ _) (Nat.le_refl _) (by simp) ?_; (case hd => rfl); (case hg => rfl); (case hr => first | (go_simp; done) | (go_simp; rfl)); (case hp => exact (Reps.one (show Kd.M (Kd.int .i32) _ _ _ 44033 [.int .i32 44033] from rfl) (Reps.one (show Kd.M (Kd.int .i32) _ _ _ 65 [.int .i32 65] from rfl) (Reps.none _ _)))); intro v135 w18 ho19 hb hg_ hnew_; clear hg_ hnew_; (first | rw [← Ny134.out] at ho19 | (simp only [Int.reduceToNat] at ho19; rw [← Ny134.out] at ho19)); have n_ := zI (aM (Kd.R_elder' (zR HO121) (Kd.R_base ho19) hb)) (zI (aM (Kd.R_elder' (zR HO124) (Kd.R_base ho19) hb)) (zI (aM (Kd.R_elder' (zR HO127) (Kd.R_base ho19) hb)) (zI (aM (Kd.R_elder' (zR HO132) (Kd.R_base ho19) hb)) (zI (aM (Kd.R_lower (Kd.R_new' (Kd.R_new' (Kd.R_new' (Kd.R_new' ho19 (Kd.R_lt (zR HO121))) (Kd.R_lt (zR HO124))) (Kd.R_lt (zR HO127))) (Kd.R_lt (zR HO132))) (below_size zB))) (aM (below_step zB hb)))))); clear HO121 HO124 HO127 HO132 HB; obtain ⟨HO121, HO124, HO127, HO132, HO136, HB⟩ := n_; clear hb ho19; obtain ⟨Ao20, co20, rfl⟩ := Kd.R_slice HO127.out; obtain ⟨Ao21, co21, rfl⟩ := Kd.R_slice HO136.out) | (go_at_call 12; (with_reducible refine (toponymref01_Same.calls k _ _ t125 _ _ y134 true _ ?side1 ?side2 ?side3 ?side4 A6.out).mono ?_); (case side1 => exact zC (Kd.R_reads' HO127.out).2.2); (case side2 => exact (Kd.R_reads' HO127.out).2.1); (case side3 => exact zC (Kd.R_reads' HO136.out).2.2); (case side4 => exact (Kd.R_reads' HO136.out).2.1); rintro e w' ⟨rfl, ⟨nd, rfl⟩⟩; (try clear A6)))
    go_ret
    exact ⟨zE, zB⟩
   ·replace c8 := Bool.eq_false_iff.mpr c8
    subst c8
    rw [if_neg (show ¬ (false = true) by decide)] at H
    obtain ⟨t138, A22, H⟩ := zO H
    by_cases c23 : t138 = true
    ·subst c23
     rw [if_pos rfl] at H
     obtain ⟨t139, A24, H⟩ := zO H
     obtain rfl := sI H
     go_enter Try.func15, Try.ntmps15
     go_wp2_with (first | ((with_reducible refine gate_callee (f := 13) rfl ?_); refine goesL_ (some 5) rfl rfl Try.func13 zK rfl #[.int .i32 44033] rfl zM ?_; (with_reducible refine (hangul_Apart.calls 44033 t119 _ A1.out).mono ?_); rintro e w25 ⟨TT_, v120, rfl, ho0, hb⟩; refine ⟨_, rfl, ?_⟩; have n_ := zI (aM (Kd.R_lower ho0 (below_size zB))) (aM (below_step zB hb)); clear HB; obtain ⟨HO121, HB⟩ := n_; (try clear hb); (try clear hk); (try clear ho0)) | ((with_reducible refine gate_dst (N := 6) rfl ?_); (try (refine gate_guard (by rfl) ?_; dsimp only)); refine Kd.R_lit (Kd.int .i32) _ 21 ?hg (N := 6) ?hd (xs := ([4352, 4449, 4520, 65] : List Int)) (inner := [.int .i32 4352, .int .i32 4449, .int .i32 4520, .int .i32 65]) (ok := fun _ => True) (okp := fun _ => True) ?hr ?hp (fun _ hk => hk) trivial (Below.refl _ _) (Nat.le_refl _) (by simp) ?_; (case hd => rfl); (case hg => rfl); (case hr => first | (go_simp; done) | (go_simp; rfl)); (case hp => exact (Reps.one (show Kd.M (Kd.int .i32) _ _ _ 4352 [.int .i32 4352] from rfl) (Reps.one (show Kd.M (Kd.int .i32) _ _ _ 4449 [.int .i32 4449] from rfl) (Reps.one (show Kd.M (Kd.int .i32) _ _ _ 4520 [.int .i32 4520] from rfl) (Reps.one (show Kd.M (Kd.int .i32) _ _ _ 65 [.int .i32 65] from rfl) (Reps.none _ _)))))); intro v123 w26 ho27 hb hg_ hnew_; clear hg_ hnew_; (first | rw [← Ny122.out] at ho27 | (simp only [Int.reduceToNat] at ho27; rw [← Ny122.out] at ho27)); have n_ := zI (aM (Kd.R_elder' (zR HO121) (Kd.R_base ho27) hb)) (zI (aM (Kd.R_lower (Kd.R_new' ho27 (Kd.R_lt (zR HO121))) (below_size zB))) (aM (below_step zB hb))); clear HO121 HB; obtain ⟨HO121, HO124, HB⟩ := n_; clear hb ho27; obtain ⟨Ao28, co28, rfl⟩ := Kd.R_slice HO124.out) | ((with_reducible refine gate_callee (f := 18) rfl ?_); refine goesL_ (some 7) rfl rfl Try.func18 zK rfl #[.slice Ao28 y122.length co28] rfl zM ?_; (with_reducible refine (hangul_Whole.calls k _ _ y122 t125 _ ?side1 ?side2 A2.out).mono ?_); (case side1 => exact zC (Kd.R_reads' HO124.out).2.2); (case side2 => exact (Kd.R_reads' HO124.out).2.1); rintro e w29 ⟨v126, rfl, ho0, hb⟩; refine ⟨_, rfl, ?_⟩; have n_ := zI (aM (Kd.R_elder' (zR HO121) (Kd.R_base ho0) hb)) (zI (aM (Kd.R_elder' (zR HO124) (Kd.R_base ho0) hb)) (zI (aM (Kd.R_lower (Kd.R_new' (Kd.R_new' ho0 (Kd.R_lt (zR HO121))) (Kd.R_lt (zR HO124))) (below_size zB))) (aM (below_step zB hb)))); clear HO121 HO124 HB; obtain ⟨HO121, HO124, HO127, HB⟩ := n_; (try clear hb); (try clear hk); (try clear ho0)) | ((with_reducible refine gate_callee (f := 16) rfl ?_); refine goesL_ (some 9) rfl rfl Try.func16 zK rfl #[.int .i32 65, .int .i32 4449] rfl zM ?_; (with_reducible refine (hangul_Join.calls k 65 4449 t128 false _ A3.out).mono ?_); rintro e w' ⟨rfl, ⟨nd, rfl⟩⟩; refine ⟨_, rfl, ?_⟩) | ((with_reducible refine gate_dst (N := 13) rfl ?_); (try (refine gate_guard (by rfl) ?_; dsimp only)); refine Kd.R_lit (Kd.int .i32) _ 21 ?hg (N := 13) ?hd (xs := ([4352, 4449, 4520] : List Int)) (inner := [.int .i32 4352, .int .i32 4449, .int .i32 4520]) (ok := fun _ => True) (okp := fun _ => True) ?hr ?hp (fun _ hk => hk) trivial (Below.refl _ _) (Nat.le_refl _) (by simp) ?_; (case hd => rfl); (case hg => rfl); (case hr => first | (go_simp; done) | (go_simp; rfl)); (case hp => exact (Reps.one (show Kd.M (Kd.int .i32) _ _ _ 4352 [.int .i32 4352] from rfl) (Reps.one (show Kd.M (Kd.int .i32) _ _ _ 4449 [.int .i32 4449] from rfl) (Reps.one (show Kd.M (Kd.int .i32) _ _ _ 4520 [.int .i32 4520] from rfl) (Reps.none _ _))))); intro v131 w30 ho31 hb hg_ hnew_; clear hg_ hnew_; (first | rw [← Ny130.out] at ho31 | (simp only [Int.reduceToNat] at ho31; rw [← Ny130.out] at ho31)); have n_ := zI (aM (Kd.R_elder' (zR HO121) (Kd.R_base ho31) hb)) (zI (aM (Kd.R_elder' (zR HO124) (Kd.R_base ho31) hb)) (zI (aM (Kd.R_elder' (zR HO127) (Kd.R_base ho31) hb)) (zI (aM (Kd.R_lower (Kd.R_new' (Kd.R_new' (Kd.R_new' ho31 (Kd.R_lt (zR HO121))) (Kd.R_lt (zR HO124))) (Kd.R_lt (zR HO127))) (below_size zB))) (aM (below_step zB hb))))); clear HO121 HO124 HO127 HB; obtain ⟨HO121, HO124, HO127, HO132, HB⟩ := n_; clear hb ho31; obtain ⟨Ao32, co32, rfl⟩ := Kd.R_slice HO121.out; obtain ⟨Ao33, co33, rfl⟩ := Kd.R_slice HO132.out) | ((with_reducible refine gate_callee (f := 12) rfl ?_); refine goesL_ (some 14) rfl rfl Try.func12 zK rfl #[.slice Ao32 t119.length co32, .slice Ao33 y130.length co33] rfl zM ?_; (with_reducible refine (toponymref01_Same.calls k _ _ t119 _ _ y130 true _ ?side1 ?side2 ?side3 ?side4 A4.out).mono ?_); (case side1 => exact zC (Kd.R_reads' HO121.out).2.2); (case side2 => exact (Kd.R_reads' HO121.out).2.1); (case side3 => exact zC (Kd.R_reads' HO132.out).2.2); (case side4 => exact (Kd.R_reads' HO132.out).2.1); rintro e w' ⟨rfl, ⟨nd, rfl⟩⟩; (try clear A4); refine ⟨_, rfl, ?_⟩) | ((with_reducible refine gate_dst (N := 17) rfl ?_); (try (refine gate_guard (by rfl) ?_; dsimp only)); refine Kd.R_lit (Kd.int .i32) _ 21 ?hg (N := 17) ?hd (xs := ([44033, 65] : List Int)) (inner := [.int .i32 44033, .int .i32 65]) (ok := fun _ => True) (okp := fun _ => True) ?hr ?hp (fun _ hk => hk) trivial (Below.refl _ _) (Nat.le_refl _) (by simp) ?_; (case hd => rfl); (case hg => rfl); (case hr => first | (go_simp; done) | (go_simp; rfl)); (case hp => exact (Reps.one (show Kd.M (Kd.int .i32) _ _ _ 44033 [.int .i32 44033] from rfl) (Reps.one (show Kd.M (Kd.int .i32) _ _ _ 65 [.int .i32 65] from rfl) (Reps.none _ _)))); intro v135 w34 ho35 hb hg_ hnew_; clear hg_ hnew_; (first | rw [← Ny134.out] at ho35 | (simp only [Int.reduceToNat] at ho35; rw [← Ny134.out] at ho35)); have n_ := zI (aM (Kd.R_elder' (zR HO121) (Kd.R_base ho35) hb)) (zI (aM (Kd.R_elder' (zR HO124) (Kd.R_base ho35) hb)) (zI (aM (Kd.R_elder' (zR HO127) (Kd.R_base ho35) hb)) (zI (aM (Kd.R_elder' (zR HO132) (Kd.R_base ho35) hb)) (zI (aM (Kd.R_lower (Kd.R_new' (Kd.R_new' (Kd.R_new' (Kd.R_new' ho35 (Kd.R_lt (zR HO121))) (Kd.R_lt (zR HO124))) (Kd.R_lt (zR HO127))) (Kd.R_lt (zR HO132))) (below_size zB))) (aM (below_step zB hb)))))); clear HO121 HO124 HO127 HO132 HB; obtain ⟨HO121, HO124, HO127, HO132, HO136, HB⟩ := n_; clear hb ho35; obtain ⟨Ao36, co36, rfl⟩ := Kd.R_slice HO127.out; obtain ⟨Ao37, co37, rfl⟩ := Kd.R_slice HO136.out) | (go_at_call 12; (with_reducible refine (toponymref01_Same.calls k _ _ t125 _ _ y134 true _ ?side1 ?side2 ?side3 ?side4 A6.out).mono ?_); (case side1 => exact zC (Kd.R_reads' HO127.out).2.2); (case side2 => exact (Kd.R_reads' HO127.out).2.1); (case side3 => exact zC (Kd.R_reads' HO136.out).2.2); (case side4 => exact (Kd.R_reads' HO136.out).2.1); rintro e w' ⟨rfl, ⟨nd, rfl⟩⟩; (try clear A6)) | (go_at_call 8; (with_reducible refine (hangul_Syllable.calls 55203 true _ A22.out).mono ?_); rintro e w' ⟨rfl, ⟨nd, rfl⟩⟩) | (go_at_call 10; (with_reducible refine (hangul_Part.calls k 44032 t139 _ A24.out).mono ?_); rintro e w' ⟨rfl, ⟨nd, rfl⟩⟩))
     go_ret
     exact ⟨zE, zB⟩
    ·replace c23 := Bool.eq_false_iff.mpr c23
     subst c23
     rw [if_neg (show ¬ (false = true) by decide)] at H
     exact absurd ((sI H).trans hT.out) (by decide)
  ·replace c7 := Bool.eq_false_iff.mpr c7
   subst c7
   rw [if_neg (show ¬ (false = true) by decide)] at H
   exact absurd ((sI H).trans hT.out) (by decide)
 ·replace c5 := Bool.eq_false_iff.mpr c5
  subst c5
  rw [if_neg (show ¬ (false = true) by decide)] at H
  exact absurd ((sI H).trans hT.out) (by decide)
/-! ### toponymlaw04_HangulBack: function 6 -/
def toponymlaw04_HangulBack.j0 : Nat → Int → Int → List Int → Bool → Option (Bool)
 | 0, _, _, _, _ => none
 | k + 1, x0, x1, x5, x30 => if x30 = true then (some false) else ((hangul_Join.f k x0 x1).bind fun bt148 => (if bt148.2 = true then ((hangul_Syllable.f bt148.1).bind fun t151 => (if t151 = true then ((hangul_Apart.f bt148.1).bind fun t152 => (if x5.length < 35184372088832 then ((toponymref01_Same.f k t152 (x5 ++ [x1])).bind fun t158 => (if t158 = true then ((toponymlaw04_awake.f k).bind fun t159 => (some t159)) else (some false))) else (none))) else (some false))) else (if bt148.1 = 0 then ((toponymlaw04_awake.f k).bind fun t150 => (some t150)) else (some false))))
def toponymlaw04_HangulBack.f (k : Nat) (a0 : Int) (a1 : Int) : Option (Bool) := (hangul_Apart.f a0).bind fun t140 => ((hangul_Whole.f k t140).bind fun t143 => (if (t143.length : Int) = 1 then (if 0 < (t143.length : Int) then (if (rd t143 0) = a0 then ((hangul_Syllable.f a0).bind fun t147 => (toponymlaw04_HangulBack.j0 k a0 a1 t140 (t147 != (decide ((t140.length : Int) > 1))))) else (toponymlaw04_HangulBack.j0 k a0 a1 t140 true)) else (none)) else (toponymlaw04_HangulBack.j0 k a0 a1 t140 true)))
theorem toponymlaw04_HangulBack.mono_l : ∀ k, (∀ y0 y1 y2 y3, LeO (toponymlaw04_HangulBack.j0 k y0 y1 y2 y3) (toponymlaw04_HangulBack.j0 (k + 1) y0 y1 y2 y3))
 | 0 => fun _ _ _ _ r h => by simp [toponymlaw04_HangulBack.j0] at h
 | k + 1 => by
  have ih0 := toponymlaw04_HangulBack.mono_l k
  ·intro y0 y1 y2 y3
   unfold toponymlaw04_HangulBack.j0
   repeat' first
   | (with_reducible exact ih0 _ _ _ _)
   | (with_reducible exact hangul_Join.mono _ _ _)
   | (with_reducible exact hangul_Whole.mono _ _)
   | (with_reducible exact toponymlaw04_awake.mono _)
   | (with_reducible exact toponymref01_Same.mono _ _ _)
   | (with_reducible exact LeO.refl _)
   | exact ih0 _ _ _ _
   | exact hangul_Join.mono _ _ _
   | exact hangul_Whole.mono _ _
   | exact toponymlaw04_awake.mono _
   | exact toponymref01_Same.mono _ _ _
   | exact LeO.none _
   | refine LeO.ite ?_ ?_
   | refine LeO.bind ?_ (fun _ => ?_)
theorem toponymlaw04_HangulBack.mono : ∀ a0 a1 k, LeO (toponymlaw04_HangulBack.f k a0 a1) (toponymlaw04_HangulBack.f (k + 1) a0 a1) := by
 intro a0 a1 k
 have ih0 := toponymlaw04_HangulBack.mono_l k
 unfold toponymlaw04_HangulBack.f
 repeat' first
   | (with_reducible exact ih0 _ _ _ _)
   | (with_reducible exact hangul_Join.mono _ _ _)
   | (with_reducible exact hangul_Whole.mono _ _)
   | (with_reducible exact toponymlaw04_awake.mono _)
   | (with_reducible exact toponymref01_Same.mono _ _ _)
   | (with_reducible exact LeO.refl _)
   | exact ih0 _ _ _ _
   | exact hangul_Join.mono _ _ _
   | exact hangul_Whole.mono _ _
   | exact toponymlaw04_awake.mono _
   | exact toponymref01_Same.mono _ _ _
   | exact LeO.none _
   | refine LeO.ite ?_ ?_
   | refine LeO.bind ?_ (fun _ => ?_)
set_option maxHeartbeats 8000000 in
set_option maxRecDepth 100000 in
theorem toponymlaw04_HangulBack.calls (k : Nat) (a0 : Int) (a1 : Int) (r : Bool) (w : World) (h : toponymlaw04_HangulBack.f k a0 a1 = some r) (hT_ : r = true) :
  Calls Try.prog 6 #[.int .i32 a0, .int .i32 a1] w fun e w' => e = .returned (.bool r) ∧ Below w.heap.size w w' := by
 have hT := aM hT_
 clear hT_
 have HB := aM (Below.refl w.heap.size w)
 have H := h
 clear h
 unfold toponymlaw04_HangulBack.f at H
 obtain ⟨t140, A3, H⟩ := zO H
 obtain ⟨t143, A4, H⟩ := zO H
 have HC5 := aM H
 clear H
 go_enter Try.func6, Try.ntmps6
 go_upto_region 3 with (first | ((with_reducible refine gate_callee (f := 13) rfl ?_); refine goesL_ (some 10) rfl rfl Try.func13 zK rfl #[.int .i32 a0] rfl zM ?_; (with_reducible refine (hangul_Apart.calls a0 t140 _ A3.out).mono ?_); rintro e w6 ⟨TT_, v141, rfl, ho0, hb⟩; (try clear A3); refine ⟨_, rfl, ?_⟩; have n_ := zI (aM (Kd.R_lower ho0 (below_size zB))) (aM (below_step zB hb)); clear HB; obtain ⟨HO142, HB⟩ := n_; (try clear hb); (try clear ho0); obtain ⟨Ao7, co7, rfl⟩ := Kd.R_slice HO142.out) | ((with_reducible refine gate_callee (f := 18) rfl ?_); refine goesL_ (some 12) rfl rfl Try.func18 zK rfl #[.slice Ao7 t140.length co7] rfl zM ?_; (with_reducible refine (hangul_Whole.calls k _ _ t140 t143 _ ?side1 ?side2 A4.out).mono ?_); (case side1 => exact zC (Kd.R_reads' HO142.out).2.2); (case side2 => exact (Kd.R_reads' HO142.out).2.1); rintro e w8 ⟨v144, rfl, ho0, hb⟩; refine ⟨_, rfl, ?_⟩; have n_ := zI (aM (Kd.R_elder' (zR HO142) (Kd.R_base ho0) hb)) (zI (aM (Kd.R_lower (Kd.R_new' ho0 (Kd.R_lt (zR HO142))) (below_size zB))) (aM (below_step zB hb))); clear HO142 HB; obtain ⟨HO142, HO145, HB⟩ := n_; (try clear hb); (try clear ho0)))
 (try simp only [Act.put, List.setIfInBounds_toArray, List.set_cons_zero, List.set_cons_succ])
 go_cut [30] (fun v30 wc => ∃ (kq : Nat) (x30_4 : Bool) (TT_ : TypeId), v30 = .bool x30_4 ∧ Aside0 (toponymlaw04_HangulBack.j0 kq a0 a1 t140 x30_4 = some r) ∧ Aside0 (kq ≤ k) ∧ Aside0 (Kd.R (Kd.int .i32) TT_ wc w.heap.size (fun _ => True) (.slice Ao7 t140.length co7) t140) ∧ Aside0 (Below w.heap.size w wc))
 case first =>
  have H := HC5.out
  clear HC5
  by_cases c9 : (t143.length : Int) = 1
  ·rw [if_pos c9] at H
   have c9b0 : ((t143.length : Int) == 1) = true := beq_iff_eq.mpr c9
   have c9b1 : ((t143.length : Int) != 1) = false := bne_eq_false_iff_eq.mpr c9
   clear c9
   (first | rw [c9b0] | (simp only [i64_w, i32_w]; rw [c9b0]) | skip)
   by_cases c10 : 0 < (t143.length : Int)
   ·rw [if_pos c10] at H
    have c10b0 : decide (0 < (t143.length : Int)) = true := decide_eq_true c10
    have c10b1 : decide (0 < t143.length) = true := decide_eq_true (by omega)
    clear c10
    by_cases c11 : (rd t143 0) = a0
    ·rw [if_pos c11] at H
     have c11b0 : ((rd t143 0) == a0) = true := beq_iff_eq.mpr c11
     have c11b1 : ((rd t143 0) != a0) = false := bne_eq_false_iff_eq.mpr c11
     clear c11
     obtain ⟨t147, A12, H⟩ := zO H
     have H' := aM H
     clear H
     obtain ⟨Ao13, co13, eo13⟩ := Kd.R_slice HO145.out
     subst eo13
     have p146 : 0 ≤ (0 : Int) := (by omega)
     have q146 : 0 < (t143.length : Int) := zoA
     obtain ⟨ad146, e146, hx146_0⟩ := Kd.at_int (Kd.R_reads' HO145.out).2.2 0 p146 q146
     cases e146
     have qi146 : (0 < t143.length) = True := eq_true (by omega)
     (try rw [show ((0 : Int)).toNat = 0 from rfl] at hx146_0)
     (try rw [Addr.add_zero'] at hx146_0)
     replace p146 := eq_true p146
     replace q146 := eq_true q146
     go_wp2_with (first | (go_at_call 8; (with_reducible refine (hangul_Syllable.calls a0 t147 _ A12.out).mono ?_); rintro e w' ⟨rfl, ⟨nd, rfl⟩⟩; (try clear A12)))
     go_meet
     case rel => exact ⟨_, ((t147 != (decide ((t140.length : Int) > 1)))), _, zP, H', ⟨by first | omega | exact Nat.le_refl _⟩, ⟨by (with_reducible repeat (first | apply Kd.R_alloc | apply Kd.R_drewN | apply Kd.R_drew)); exact Kd.R_mono HO142.out (fun _ hk => trivial)⟩, ⟨zB⟩⟩
    ·rw [if_neg c11] at H
     have c11b0 : ((rd t143 0) == a0) = false := beq_eq_false_iff_ne.mpr c11
     have c11b1 : ((rd t143 0) != a0) = true := bne_iff_ne.mpr c11
     have H' := aM H
     clear H
     obtain ⟨Ao14, co14, eo14⟩ := Kd.R_slice HO145.out
     subst eo14
     have p146 : 0 ≤ (0 : Int) := (by omega)
     have q146 : 0 < (t143.length : Int) := zoA
     obtain ⟨ad146, e146, hx146_0⟩ := Kd.at_int (Kd.R_reads' HO145.out).2.2 0 p146 q146
     cases e146
     have qi146 : (0 < t143.length) = True := eq_true (by omega)
     (try rw [show ((0 : Int)).toNat = 0 from rfl] at hx146_0)
     (try rw [Addr.add_zero'] at hx146_0)
     replace p146 := eq_true p146
     replace q146 := eq_true q146
     go_wp2
     go_meet
     case rel => exact ⟨_, (true), _, zP, H', ⟨by first | omega | exact Nat.le_refl _⟩, ⟨by (with_reducible repeat (first | apply Kd.R_alloc | apply Kd.R_drewN | apply Kd.R_drew)); exact Kd.R_mono HO142.out (fun _ hk => trivial)⟩, ⟨zB⟩⟩
   ·rw [if_neg c10] at H
    exact absurd H (by simp)
  ·rw [if_neg c9] at H
   have c9b0 : ((t143.length : Int) == 1) = false := beq_eq_false_iff_ne.mpr c9
   have c9b1 : ((t143.length : Int) != 1) = true := bne_iff_ne.mpr c9
   (first | rw [c9b0] | (simp only [i64_w, i32_w]; rw [c9b0]) | skip)
   have H' := aM H
   clear H
   obtain ⟨Ao15, co15, eo15⟩ := Kd.R_slice HO145.out
   subst eo15
   go_wp2
   go_meet
   case rel => exact ⟨_, (true), _, zP, H', ⟨by first | omega | exact Nat.le_refl _⟩, ⟨by (with_reducible repeat (first | apply Kd.R_alloc | apply Kd.R_drewN | apply Kd.R_drew)); exact Kd.R_mono HO142.out (fun _ hk => trivial)⟩, ⟨zB⟩⟩
 case rest =>
  clear HC5
  try clear c1
  try clear p1
  try clear q1
  try clear hx1
  try clear qi1
  try clear p2
  try clear c6
  try clear c9
  try clear c9b0
  try clear c9b1
  try clear c10
  try clear c10b0
  try clear c10b1
  try clear c11
  try clear c11b0
  try clear c11b1
  try clear c13
  try clear p14
  try clear q14
  try clear hx14
  try clear qi14
  try clear hx146_0
  try clear p146
  try clear q146
  obtain ⟨kq, x30_4, TC_, rfl, HA, HJ4, HO_5, HB⟩ := hcut
  cases kq with
  | zero => exact absurd HA.out (by simp [toponymlaw04_HangulBack.j0])
  | succ kj4 =>
   have H := HA.out
   clear HA
   simp only [toponymlaw04_HangulBack.j0] at H
   by_cases c16 : x30_4 = true
   ·subst c16
    rw [if_pos rfl] at H
    obtain rfl := sI H
    go_wp2
    go_ret
    exact ⟨zE, zB⟩
   ·replace c16 := Bool.eq_false_iff.mpr c16
    subst c16
    rw [if_neg (show ¬ (false = true) by decide)] at H
    obtain ⟨⟨t148, t149⟩, A17, H⟩ := zO H
    try dsimp only at H
    by_cases c18 : t149 = true
    ·subst c18
     rw [if_pos rfl] at H
     obtain ⟨t151, A19, H⟩ := zO H
     by_cases c20 : t151 = true
     ·subst c20
      rw [if_pos rfl] at H
      obtain ⟨t152, A21, H⟩ := zO H
      by_cases c22 : t140.length < 35184372088832
      ·rw [if_pos c22] at H
       have LMc22 := aM c22
       clear c22
       obtain ⟨y155, hy155⟩ : ∃ y_ : List Int, y_ = (t140 ++ [a1]) := ⟨_, rfl⟩
       replace H : ((toponymref01_Same.f kj4 t152 y155).bind fun t158 => (if t158 = true then ((toponymlaw04_awake.f kj4).bind fun t159 => (some t159)) else (some false))) = some r := zY hy155 H
       have Ny155 := aM hy155
       clear hy155
       obtain ⟨t158, A23, H⟩ := zO H
       by_cases c24 : t158 = true
       ·subst c24
        rw [if_pos rfl] at H
        obtain ⟨t159, A25, H⟩ := zO H
        obtain rfl := sI H
        go_wp2_with (first | ((with_reducible refine gate_callee (f := 16) rfl ?_); refine goesL_ (some 34) rfl rfl Try.func16 zK rfl #[.int .i32 a0, .int .i32 a1] rfl zM ?_; (with_reducible refine (hangul_Join.calls kj4 a0 a1 t148 true _ A17.out).mono ?_); rintro e w' ⟨rfl, ⟨nd, rfl⟩⟩; refine ⟨_, rfl, ?_⟩) | ((with_reducible refine gate_callee (f := 8) rfl ?_); refine goesL_ (some 45) rfl rfl Try.func8 zK rfl #[.int .i32 t148] rfl zM ?_; (with_reducible refine (hangul_Syllable.calls t148 true _ A19.out).mono ?_); rintro e w' ⟨rfl, ⟨nd, rfl⟩⟩; (try clear A19); refine ⟨_, rfl, ?_⟩) | (go_at_call 13; (with_reducible refine (hangul_Apart.calls t148 t152 _ A21.out).mono ?_); rintro e w26 ⟨TT_, v153, rfl, ho0, hb⟩; (try clear A21); have n_ := zI (aM (Kd.R_elder' (zR HO_5) (Kd.R_base ho0) hb)) (zI (aM (Kd.R_lower (Kd.R_new' ho0 (Kd.R_lt (zR HO_5))) (below_size zB))) (aM (below_step zB hb))); clear HO_5 HB; obtain ⟨HO_5, HO154, HB⟩ := n_; (try clear hb); (try clear hk); (try clear ho0)) | ((with_reducible refine gate_builtin (b := .append) (xs := #[.tmp 49, .tmp 51]) rfl ?_); (try (refine gate_guard (by rfl) ?_; dsimp only)); at_builtin; refine R_append_T TC_ (w0 := w) w.heap.size rfl (.tmp 49) (.tmp 51) 25 21 4 rfl Try.underlying25 info21 (by omega) (.slice Ao7 t140.length co7) t140 a1 (fun k_ => some k_ ≠ (v153 : Value).ownBlock) rfl rfl ?aF ?aO ?aB ?aS ?aL ?_; (case aB => exact zB); (case aF => exact (fun k_ hk => Kd.fresh' (Kd.R_lt (zR HO154)) k_ hk)); (case aO => exact (by (with_reducible repeat (first | apply Kd.R_alloc | apply Kd.R_drewN | apply Kd.R_drew)); exact Kd.R_mono HO_5.out (fun _ hk => hk.2))); (case aS => exact (below_size zB)); (case aL => have := LMc22.out; omega); intro v156 w27 TU_ ho hb hg hat; rw [← Ny155.out] at ho; have n_ := zI (aM (Kd.R_after (ok := (fun _ => True)) (zR HO154) hg hat)) (zI (aM (hb)) (aM (ho))); clear HO154 HB HO_5; obtain ⟨HO154, HB, HO157⟩ := n_; clear ho hb hg hat; obtain ⟨Ao28, co28, rfl⟩ := Kd.R_slice HO154.out; obtain ⟨Ao29, co29, rfl⟩ := Kd.R_slice HO157.out) | (go_at_call 12; (with_reducible refine (toponymref01_Same.calls kj4 _ _ t152 _ _ y155 true _ ?side1 ?side2 ?side3 ?side4 A23.out).mono ?_); (case side1 => exact zC (Kd.R_reads' HO154.out).2.2); (case side2 => exact (Kd.R_reads' HO154.out).2.1); (case side3 => exact zC (Kd.R_reads' HO157.out).2.2); (case side4 => exact (Kd.R_reads' HO157.out).2.1); rintro e w' ⟨rfl, ⟨nd, rfl⟩⟩) | (go_at_call 15; (with_reducible refine (toponymlaw04_awake.calls kj4  t159 _ A25.out).mono ?_); rintro e w30 ⟨rfl, hb⟩; (try clear A25); have n_ := zI (aM (Kd.R_below (zR HO154) hb)) (zI (aM (Kd.R_below (zR HO157) hb)) (aM (below_step zB hb))); clear HO154 HO157 HB; obtain ⟨HO154, HO157, HB⟩ := n_; (try clear hb); (try clear hk)))
        go_ret
        exact ⟨zE, zB⟩
       ·replace c24 := Bool.eq_false_iff.mpr c24
        subst c24
        rw [if_neg (show ¬ (false = true) by decide)] at H
        exact absurd ((sI H).trans hT.out) (by decide)
      ·rw [if_neg c22] at H
       exact absurd H (by simp)
     ·replace c20 := Bool.eq_false_iff.mpr c20
      subst c20
      rw [if_neg (show ¬ (false = true) by decide)] at H
      exact absurd ((sI H).trans hT.out) (by decide)
    ·replace c18 := Bool.eq_false_iff.mpr c18
     subst c18
     rw [if_neg (show ¬ (false = true) by decide)] at H
     by_cases c35 : t148 = 0
     ·rw [if_pos c35] at H
      have c35b0 : (t148 == 0) = true := beq_iff_eq.mpr c35
      have c35b1 : (t148 != 0) = false := bne_eq_false_iff_eq.mpr c35
      clear c35
      obtain ⟨t150, A36, H⟩ := zO H
      obtain rfl := sI H
      go_wp2_with (first | ((with_reducible refine gate_callee (f := 16) rfl ?_); refine goesL_ (some 34) rfl rfl Try.func16 zK rfl #[.int .i32 a0, .int .i32 a1] rfl zM ?_; (with_reducible refine (hangul_Join.calls kj4 a0 a1 t148 false _ A17.out).mono ?_); rintro e w' ⟨rfl, ⟨nd, rfl⟩⟩; refine ⟨_, rfl, ?_⟩) | (go_at_call 15; (with_reducible refine (toponymlaw04_awake.calls kj4  t150 _ A36.out).mono ?_); rintro e w37 ⟨rfl, hb⟩; (try clear A36); have n_ := zI (aM (Kd.R_below (zR HO_5) hb)) (aM (below_step zB hb)); clear HO_5 HB; obtain ⟨HO_5, HB⟩ := n_; (try clear hb)))
      go_ret
      exact ⟨zE, zB⟩
     ·rw [if_neg c35] at H
      exact absurd ((sI H).trans hT.out) (by decide)
/-- THE ONE PURE STATEMENT of toponymlaw04_HangulBack: yours. -/
def toponymlaw04_HangulBack.Pure : Prop := ∀ (a0 : Int) (a1 : Int), (Lit.int .i32 a0).wf = true → (Lit.int .i32 a1).wf = true → ∃ k, toponymlaw04_HangulBack.f k a0 a1 = some true
theorem toponymlaw04_HangulBack.walk (P : toponymlaw04_HangulBack.Pure) (a0 : Int) (a1 : Int) (w : World) (w0 : (Lit.int .i32 a0).wf = true) (w1 : (Lit.int .i32 a1).wf = true) :
  Calls Try.prog 6 #[.int .i32 a0, .int .i32 a1] w fun e w' => e = .returned (.bool true) ∧ Below w.heap.size w w' := by
 obtain ⟨k, h⟩ := P a0 a1 w0 w1
 refine (toponymlaw04_HangulBack.calls k a0 a1 true w h rfl).mono ?_
 rintro e w' ⟨rfl, hd⟩
 exact ⟨rfl, hd⟩

end Go.Proofs.Ytmicdcgjooopeaa.P
