-- Printed by wip/mk.py (this session's driver over the kit's print) and from wip/manual.
import Derived.Test.YtdgnekknmpfepaaGreatDoorP0
namespace Go.Proofs.YtdgnekknmpfepaaGreatDoor.P
open Go.RowKit Go.Proofs.YtdgnekknmpfepaaGreatDoorW.PrintWords Go.Proofs.YtdgnekknmpfepaaGreatDoorW.PrintLast Go.Proofs.YtdgnekknmpfepaaGreatDoorW.PrintMore
attribute [local go_sem] run_store_float run_store_complex max2_int min2_int max_two min_two max_three min_three max_four min_four   -- for this text's walks alone
set_option linter.unusedVariables false
set_option linter.unusedSimpArgs false

/-! ### syntax_Known: function 12 -/
def syntax_Known.f (a0 : Int) : Option (Bool) := if a0 ≥ 1 then (some (decide (a0 ≤ 10))) else (some false)
set_option maxHeartbeats 8000000 in
set_option maxRecDepth 100000 in
theorem syntax_Known.calls (a0 : Int) (r : Bool) (w : World) (h : syntax_Known.f a0 = some r) :
  Calls Tryz.prog 12 #[.int .i64 a0] w fun e w' => e = .returned (.bool r) ∧ Drawn0 w w' := by
 have H := h
 clear h
 unfold syntax_Known.f at H
 by_cases c2 : a0 ≥ 1
 ·rw [if_pos c2] at H
  have c2b0 : decide (1 ≤ a0) = true := decide_eq_true c2
  clear c2
  obtain rfl := sI H
  go_enter Tryz.func12, Tryz.ntmps12
  go_wp2
  go_ret
  exact ⟨zP, zD⟩
 ·rw [if_neg c2] at H
  have c2b0 : decide (1 ≤ a0) = false := decide_eq_false c2
  clear c2
  obtain rfl := sI H
  go_enter Tryz.func12, Tryz.ntmps12
  go_wp2
  go_ret
  exact ⟨zP, zD⟩

/-! ### strconv_Itoa_97: function 97, by hand (strconv.Itoa.tpl) -/
/-- What the library's package-level variables hold: the table of powers of ten, two errors, the bound of its search. -/
def MaxOk (w : World) : Prop := ∃ m, w.cell? ⟨3, 0, none⟩ = some (.int .i64 m)
theorem MaxOk.below {w w' : World} (h : MaxOk w) (hb : Below w.heap.size w w') : MaxOk w' := h.elim fun m h4 => ⟨m, (hb.cell (p := ⟨3, 0, none⟩) (World.block_lt_of_cell? w _ h4)).trans h4⟩
def Env (w : World) : Prop := (∃ t b, w.heap[(2 : Nat)]? = some (.cells (Lib.pow10Tab.map fun z => Value.int .u64 z).toArray t b)) ∧ (∃ tp p t b, w.heap[(0 : Nat)]? = some (.cells #[.iface tp p] t b)) ∧ (∃ tp p t b, w.heap[(1 : Nat)]? = some (.cells #[.iface tp p] t b)) ∧ MaxOk w
theorem keeps_block {w w' : World} (hb : Below w.heap.size w w') {g : Nat} {o : Obj} (h : w.heap[g]? = some o) : w'.heap[g]? = some o := (hb.block g (Array.getElem?_eq_some_iff.1 h).1).trans h
theorem Env.below {w w' : World} (h : Env w) (hb : Below w.heap.size w w') : Env w' := by
  obtain ⟨⟨t, b, h1⟩, ⟨tp, p, t2, b2, h2⟩, ⟨tq, q, t3, b3, h3⟩, h4⟩ := h
  exact ⟨⟨t, b, keeps_block hb h1⟩, ⟨tp, p, t2, b2, keeps_block hb h2⟩, ⟨tq, q, t3, b3, keeps_block hb h3⟩, h4.below hb⟩
theorem zEnv {w W : World} (HE : Aside0 (Env w)) (h : Below w.heap.size w W := by repeat (first | (with_reducible first | exact HB.out | apply bA | apply bN | apply bD) | exact HB.out)) : Env W := HE.out.below h
def strconv_Itoa_97.f (a0 : Int) : Option ByteArray := if -9223372036854775808 ≤ a0 ∧ a0 ≤ 9223372036854775807 then some ⟨(Lib.itoa a0).toArray⟩ else none
theorem strconv_Itoa_97.calls (a0 : Int) (r : ByteArray) (w : World) (hE : Env w) (h : strconv_Itoa_97.f a0 = some r) :
    Calls Tryz.prog 97 #[.int .i64 a0] w fun e w' => e = .returned (.string r) ∧ Below w.heap.size w w' := by
  unfold strconv_Itoa_97.f at h
  by_cases c : -9223372036854775808 ≤ a0 ∧ a0 ≤ 9223372036854775807
  · rw [if_pos c] at h
    obtain rfl := Option.some.inj h
    refine (Any.strconv_Itoa Tryz.laysM171 a0 c.1 c.2 w ?_).mono ?_
    · obtain ⟨t, b, h1⟩ := hE.1
      unfold Lib.TabIs World.var?
      rw [show Program.globalNamed Tryz.prog _ = some 2 from by kernel_rfl]
      simp only [Option.bind_some, h1]
    · rintro e w' ⟨rfl, k, os, rfl⟩
      refine ⟨rfl, ⟨rfl, rfl, rfl, ?_, fun i hi => ?_⟩⟩
      · show w.heap.size ≤ (w.heap ++ os).size
        simp
      · show (w.heap ++ os)[i]? = w.heap[i]?
        exact Array.getElem?_append_left hi
  · rw [if_neg c] at h
    exact absurd h (by simp)

/-! ### syntax_Integer: function 10, by hand (syntax.Integer.tpl) -/
theorem pint_ok (s : ByteArray) (hs : s.size ≤ 400) (v : Int) (h : Lib.parseIntB 64 s.data.toList = .ok v) (w : World) :
    Calls Tryz.prog 17 #[.string s, .int .i64 10, .int .i64 64] w fun e w' => e = .returned (.tuple #[.int .i64 v, .nilIface]) ∧ Below w.heap.size w w' := by
  refine (Any.strconv_ParseInt_10_at64_ok Tryz.laysC174 s (by omega) v h w).mono ?_
  rintro e w' ⟨rfl, rfl | ⟨t, rfl⟩⟩
  · exact ⟨rfl, Below.refl _ _⟩
  · exact ⟨rfl, Lib.bytesWorld_below _ _ _⟩
theorem pint_no (s : ByteArray) (hs : s.size ≤ 400) (h : ∀ v, Lib.parseIntB 64 s.data.toList ≠ .ok v) (w : World) (hE : Env w) :
    Calls Tryz.prog 17 #[.string s, .int .i64 10, .int .i64 64] w fun e w' => ∃ (n : Int) (N : Nat), e = .returned (.tuple #[.int .i64 n, .iface 112 (.pointer (some ⟨N, 0, none⟩))]) ∧ Below w.heap.size w w' := by
  obtain ⟨_, ⟨tp, p, t2, b2, h2⟩, ⟨tq, q, t3, b3, h3⟩, _⟩ := hE
  cases hh : Lib.parseIntB 64 s.data.toList with
  | ok v => exact absurd hh (h v)
  | «syntax» =>
    refine (Any.strconv_ParseInt_10_at64_syntax_var Tryz.laysC174 s (by omega) hh tp p w ?_).mono ?_
    · unfold World.var?
      rw [show Program.globalNamed Tryz.prog _ = some 0 from by kernel_rfl]
      simp only [Option.bind_some, h2]
    · rintro e w' ⟨N, rfl, _, _, hb⟩
      exact ⟨_, N, rfl, hb⟩
  | range =>
    refine (Any.strconv_ParseInt_10_at64_range_var Tryz.laysC174 s (by omega) hh tq q w ?_).mono ?_
    · unfold World.var?
      rw [show Program.globalNamed Tryz.prog _ = some 1 from by kernel_rfl]
      simp only [Option.bind_some, h3]
    · rintro e w' ⟨N, rfl, _, _, hb⟩
      exact ⟨_, N, rfl, hb⟩
theorem fint_ok (n : Int) (h0 : -9223372036854775808 ≤ n) (h1 : n ≤ 9223372036854775807) (w : World) (hE : Env w) :
    Calls Tryz.prog 18 #[.int .i64 n, .int .i64 10] w fun e w' => e = .returned (.string ⟨(Lib.itoa n).toArray⟩) ∧ Below w.heap.size w w' := by
  refine (Any.strconv_FormatInt_10 Tryz.laysM173 n h0 h1 w ?_).mono ?_
  · obtain ⟨t, b, h1⟩ := hE.1
    unfold Lib.TabIs World.var?
    rw [show Program.globalNamed Tryz.prog _ = some 2 from by kernel_rfl]
    simp only [Option.bind_some, h1]
  · rintro e w' ⟨rfl, k, os, rfl⟩
    refine ⟨rfl, ⟨rfl, rfl, rfl, ?_, fun i hi => ?_⟩⟩
    · show w.heap.size ≤ (w.heap ++ os).size
      simp
    · show (w.heap ++ os)[i]? = w.heap[i]?
      exact Array.getElem?_append_left hi
def syntax_Integer.f (a0 : ByteArray) : Option (Int × Int) := if a0.size > 19 then some (0, 180) else match Lib.parseIntB 64 a0.data.toList with
  | .ok v => if v > 999999999999999999 then some (0, 180) else if v < -999999999999999999 then some (0, 180) else if (⟨(Lib.itoa v).toArray⟩ : ByteArray).toList = a0.toList then some (v, 0) else some (0, 180)
  | _ => some (0, 180)
set_option maxHeartbeats 8000000 in
set_option maxRecDepth 100000 in
theorem syntax_Integer.calls (a0 : ByteArray) (r1 : Int) (r2 : Int) (w : World) (hE : Env w) (h : syntax_Integer.f a0 = some (r1, r2)) :
    Calls Tryz.prog 10 #[.string a0] w fun e w' => e = .returned (.tuple #[.int .i64 r1, .int .i64 r2]) ∧ Below w.heap.size w w' := by
  unfold syntax_Integer.f at h
  have HE := Aside0.mk hE
  clear hE
  by_cases c1 : a0.size > 19
  · rw [if_pos c1] at h
    simp only [Option.some.injEq, Prod.mk.injEq] at h
    obtain ⟨rfl, rfl⟩ := h
    have b1 : decide (19 < a0.size) = true := decide_eq_true c1
    have b2 : decide ((19 : Int) < (a0.size : Int)) = true := decide_eq_true (by omega)
    go_enter Tryz.func10, Tryz.ntmps10
    go_wp2
    go_ret2
    exact ⟨by first | rfl | (simp; done) | (simp [*]; done), by repeat (first | exact Below.refl _ _ | apply bN | apply bD)⟩
  · rw [if_neg c1] at h
    have HS := Aside0.mk (show a0.size ≤ 400 by omega)
    have b1 : decide (19 < a0.size) = false := decide_eq_false c1
    have b2 : decide ((19 : Int) < (a0.size : Int)) = false := decide_eq_false (by omega)
    clear c1
    by_cases hv : ∃ v, Lib.parseIntB 64 a0.data.toList = .ok v
    · obtain ⟨v, hv⟩ := hv
      rw [hv] at h
      simp only at h
      have HV := Aside0.mk hv
      clear hv
      by_cases c2 : v > 999999999999999999
      · rw [if_pos c2] at h
        simp only [Option.some.injEq, Prod.mk.injEq] at h
        obtain ⟨rfl, rfl⟩ := h
        have d2 : decide (999999999999999999 < v) = true := decide_eq_true c2
        clear c2
        go_enter Tryz.func10, Tryz.ntmps10
        go_wp2_with (go_at_call 17; (with_reducible refine (pint_ok a0 HS.out v HV.out _).mono ?_); rintro e w1 ⟨rfl, hb⟩; have HB := Aside0.mk hb; clear hb)
        go_ret2
        exact ⟨by first | rfl | (simp; done) | (simp [*]; done), by repeat (first | exact HB.out | apply bN | apply bD)⟩
      · rw [if_neg c2] at h
        have d2 : decide (999999999999999999 < v) = false := decide_eq_false c2
        by_cases c3 : v < -999999999999999999
        · rw [if_pos c3] at h
          simp only [Option.some.injEq, Prod.mk.injEq] at h
          obtain ⟨rfl, rfl⟩ := h
          have d3 : decide (v < -999999999999999999) = true := decide_eq_true c3
          clear c2 c3
          go_enter Tryz.func10, Tryz.ntmps10
          go_wp2_with (go_at_call 17; (with_reducible refine (pint_ok a0 HS.out v HV.out _).mono ?_); rintro e w1 ⟨rfl, hb⟩; have HB := Aside0.mk hb; clear hb)
          go_ret2
          exact ⟨by first | rfl | (simp; done) | (simp [*]; done), by repeat (first | exact HB.out | apply bN | apply bD)⟩
        · rw [if_neg c3] at h
          have d3 : decide (v < -999999999999999999) = false := decide_eq_false c3
          have HL := Aside0.mk (show -9223372036854775808 ≤ v by omega)
          have HU := Aside0.mk (show v ≤ 9223372036854775807 by omega)
          clear c2 c3
          generalize hz : (⟨(Lib.itoa v).toArray⟩ : ByteArray) = z at h
          have HZ := Aside0.mk (fun (w : World) (hE : Env w) => hz ▸ fint_ok v HL.out HU.out w hE)
          clear hz
          by_cases c4 : z.toList = a0.toList
          · rw [if_pos c4] at h
            simp only [Option.some.injEq, Prod.mk.injEq] at h
            obtain ⟨rfl, rfl⟩ := h
            have d4 : (z.toList == a0.toList) = true := beq_iff_eq.mpr c4
            have d5 : (z.toList != a0.toList) = false := bne_eq_false_iff_eq.mpr c4
            clear c4
            go_enter Tryz.func10, Tryz.ntmps10
            go_wp2_with (first | (go_at_call 17; (with_reducible refine (pint_ok a0 HS.out v HV.out _).mono ?_); rintro e w1 ⟨rfl, hb⟩; have HB := Aside0.mk hb; clear hb) | (go_at_call 18; (with_reducible refine (HZ.out _ (zEnv HE)).mono ?_); rintro e w2 ⟨rfl, hb⟩; have HB2 := Aside0.mk (below_step zB hb); clear hb))
            go_ret2
            exact ⟨by first | rfl | (simp; done) | (simp [*]; done), by repeat (first | exact HB2.out | apply bN | apply bD)⟩
          · rw [if_neg c4] at h
            simp only [Option.some.injEq, Prod.mk.injEq] at h
            obtain ⟨rfl, rfl⟩ := h
            have d4 : (z.toList == a0.toList) = false := beq_eq_false_iff_ne.mpr c4
            have d5 : (z.toList != a0.toList) = true := bne_iff_ne.mpr c4
            clear c4
            go_enter Tryz.func10, Tryz.ntmps10
            go_wp2_with (first | (go_at_call 17; (with_reducible refine (pint_ok a0 HS.out v HV.out _).mono ?_); rintro e w1 ⟨rfl, hb⟩; have HB := Aside0.mk hb; clear hb) | (go_at_call 18; (with_reducible refine (HZ.out _ (zEnv HE)).mono ?_); rintro e w2 ⟨rfl, hb⟩; have HB2 := Aside0.mk (below_step zB hb); clear hb))
            go_ret2
            exact ⟨by first | rfl | (simp; done) | (simp [*]; done), by repeat (first | exact HB2.out | apply bN | apply bD)⟩
    · have hno : ∀ v, Lib.parseIntB 64 a0.data.toList ≠ .ok v := fun v e => hv ⟨v, e⟩
      have h' : (some (0, 180) : Option (Int × Int)) = some (r1, r2) := by
        revert h
        cases hp : Lib.parseIntB 64 a0.data.toList with
        | ok v => exact absurd hp (hno v)
        | «syntax» => exact id
        | range => exact id
      simp only [Option.some.injEq, Prod.mk.injEq] at h'
      obtain ⟨rfl, rfl⟩ := h'
      have HV := Aside0.mk hno
      clear hv hno h
      go_enter Tryz.func10, Tryz.ntmps10
      go_wp2_with (go_at_call 17; (with_reducible refine (pint_no a0 HS.out HV.out _ HE.out).mono ?_); rintro e w1 ⟨n1, N1, rfl, hb⟩; have HB := Aside0.mk hb; clear hb)
      go_ret2
      exact ⟨by first | rfl | (simp; done) | (simp [*]; done), by repeat (first | exact HB.out | apply bN | apply bD)⟩

/-! ### prep_known: function 44 -/
def prep_known.f (a0 : Int) : Option (Bool) := if a0 ≥ 1 then (some (decide (a0 ≤ 4))) else (some false)
set_option maxHeartbeats 8000000 in
set_option maxRecDepth 100000 in
theorem prep_known.calls (a0 : Int) (r : Bool) (w : World) (h : prep_known.f a0 = some r) :
  Calls Tryz.prog 44 #[.int .i64 a0] w fun e w' => e = .returned (.bool r) ∧ Drawn0 w w' := by
 have H := h
 clear h
 unfold prep_known.f at H
 by_cases c2 : a0 ≥ 1
 ·rw [if_pos c2] at H
  have c2b0 : decide (1 ≤ a0) = true := decide_eq_true c2
  clear c2
  obtain rfl := sI H
  go_enter Tryz.func44, Tryz.ntmps44
  go_wp2
  go_ret
  exact ⟨zP, zD⟩
 ·rw [if_neg c2] at H
  have c2b0 : decide (1 ≤ a0) = false := decide_eq_false c2
  clear c2
  obtain rfl := sI H
  go_enter Tryz.func44, Tryz.ntmps44
  go_wp2
  go_ret
  exact ⟨zP, zD⟩

/-! ### utf_Point: function 145 -/
def utf_Point.f (a0 : Int) : Option (Bool) := if a0 ≥ 0 then (if a0 ≤ 1114111 then (if a0 < 55296 then (some true) else (some (decide (a0 > 57343)))) else (some false)) else (some false)
set_option maxHeartbeats 8000000 in
set_option maxRecDepth 100000 in
theorem utf_Point.calls (a0 : Int) (r : Bool) (w : World) (h : utf_Point.f a0 = some r) :
  Calls Tryz.prog 145 #[.int .i32 a0] w fun e w' => e = .returned (.bool r) ∧ Drawn0 w w' := by
 have H := h
 clear h
 unfold utf_Point.f at H
 by_cases c2 : a0 ≥ 0
 ·rw [if_pos c2] at H
  have c2b0 : decide (0 ≤ a0) = true := decide_eq_true c2
  clear c2
  by_cases c3 : a0 ≤ 1114111
  ·rw [if_pos c3] at H
   have c3b0 : decide (a0 ≤ 1114111) = true := decide_eq_true c3
   clear c3
   by_cases c4 : a0 < 55296
   ·rw [if_pos c4] at H
    have c4b0 : decide (a0 < 55296) = true := decide_eq_true c4
    clear c4
    obtain rfl := sI H
    go_enter Tryz.func145, Tryz.ntmps145
    go_wp2
    go_ret
    exact ⟨zP, zD⟩
   ·rw [if_neg c4] at H
    have c4b0 : decide (a0 < 55296) = false := decide_eq_false c4
    clear c4
    obtain rfl := sI H
    go_enter Tryz.func145, Tryz.ntmps145
    go_wp2
    go_ret
    exact ⟨zP, zD⟩
  ·rw [if_neg c3] at H
   have c3b0 : decide (a0 ≤ 1114111) = false := decide_eq_false c3
   clear c3
   obtain rfl := sI H
   go_enter Tryz.func145, Tryz.ntmps145
   go_wp2
   go_ret
   exact ⟨zP, zD⟩
 ·rw [if_neg c2] at H
  have c2b0 : decide (0 ≤ a0) = false := decide_eq_false c2
  clear c2
  obtain rfl := sI H
  go_enter Tryz.func145, Tryz.ntmps145
  go_wp2
  go_ret
  exact ⟨zP, zD⟩

/-! ### utf_Length: function 90 -/
def utf_Length.f (a0 : Int) : Option (Int) := (utf_Point.f a0).bind fun t101 => (if t101 = true then (if a0 < 128 then (some 1) else (if a0 < 2048 then (some 2) else (if a0 < 65536 then (some 3) else (some 4)))) else (some 0))
set_option maxHeartbeats 8000000 in
set_option maxRecDepth 100000 in
theorem utf_Length.calls (a0 : Int) (r : Int) (w : World) (h : utf_Length.f a0 = some r) :
  Calls Tryz.prog 90 #[.int .i32 a0] w fun e w' => e = .returned (.int .i64 r) ∧ Drawn0 w w' := by
 have H := h
 clear h
 unfold utf_Length.f at H
 obtain ⟨t101, A2, H⟩ := zO H
 by_cases c3 : t101 = true
 ·subst c3
  rw [if_pos rfl] at H
  by_cases c4 : a0 < 128
  ·rw [if_pos c4] at H
   have c4b0 : decide (a0 < 128) = true := decide_eq_true c4
   clear c4
   obtain rfl := sI H
   go_enter Tryz.func90, Tryz.ntmps90
   go_wp2_with (first | ((with_reducible refine gate_callee (f := 145) rfl ?_); refine goesL_ (some 5) rfl rfl Tryz.func145 zK rfl #[.int .i32 a0] rfl zM ?_; (with_reducible refine (utf_Point.calls a0 true _ A2.out).mono ?_); rintro e w' ⟨rfl, ⟨nd, rfl⟩⟩; refine ⟨_, rfl, ?_⟩))
   go_ret
   exact ⟨zP, zD⟩
  ·rw [if_neg c4] at H
   have c4b0 : decide (a0 < 128) = false := decide_eq_false c4
   clear c4
   by_cases c5 : a0 < 2048
   ·rw [if_pos c5] at H
    have c5b0 : decide (a0 < 2048) = true := decide_eq_true c5
    clear c5
    obtain rfl := sI H
    go_enter Tryz.func90, Tryz.ntmps90
    go_wp2_with (first | ((with_reducible refine gate_callee (f := 145) rfl ?_); refine goesL_ (some 5) rfl rfl Tryz.func145 zK rfl #[.int .i32 a0] rfl zM ?_; (with_reducible refine (utf_Point.calls a0 true _ A2.out).mono ?_); rintro e w' ⟨rfl, ⟨nd, rfl⟩⟩; refine ⟨_, rfl, ?_⟩))
    go_ret
    exact ⟨zP, zD⟩
   ·rw [if_neg c5] at H
    have c5b0 : decide (a0 < 2048) = false := decide_eq_false c5
    clear c5
    by_cases c6 : a0 < 65536
    ·rw [if_pos c6] at H
     have c6b0 : decide (a0 < 65536) = true := decide_eq_true c6
     clear c6
     obtain rfl := sI H
     go_enter Tryz.func90, Tryz.ntmps90
     go_wp2_with (first | ((with_reducible refine gate_callee (f := 145) rfl ?_); refine goesL_ (some 5) rfl rfl Tryz.func145 zK rfl #[.int .i32 a0] rfl zM ?_; (with_reducible refine (utf_Point.calls a0 true _ A2.out).mono ?_); rintro e w' ⟨rfl, ⟨nd, rfl⟩⟩; refine ⟨_, rfl, ?_⟩))
     go_ret
     exact ⟨zP, zD⟩
    ·rw [if_neg c6] at H
     have c6b0 : decide (a0 < 65536) = false := decide_eq_false c6
     clear c6
     obtain rfl := sI H
     go_enter Tryz.func90, Tryz.ntmps90
     go_wp2_with (first | ((with_reducible refine gate_callee (f := 145) rfl ?_); refine goesL_ (some 5) rfl rfl Tryz.func145 zK rfl #[.int .i32 a0] rfl zM ?_; (with_reducible refine (utf_Point.calls a0 true _ A2.out).mono ?_); rintro e w' ⟨rfl, ⟨nd, rfl⟩⟩; refine ⟨_, rfl, ?_⟩))
     go_ret
     exact ⟨zP, zD⟩
 ·replace c3 := Bool.eq_false_iff.mpr c3
  subst c3
  rw [if_neg (show ¬ (false = true) by decide)] at H
  obtain rfl := sI H
  go_enter Tryz.func90, Tryz.ntmps90
  go_wp2_with (first | ((with_reducible refine gate_callee (f := 145) rfl ?_); refine goesL_ (some 5) rfl rfl Tryz.func145 zK rfl #[.int .i32 a0] rfl zM ?_; (with_reducible refine (utf_Point.calls a0 false _ A2.out).mono ?_); rintro e w' ⟨rfl, ⟨nd, rfl⟩⟩; refine ⟨_, rfl, ?_⟩))
  go_ret
  exact ⟨zP, zD⟩

/-! ### utf_Decode: function 83, by hand (utf.Decode.tpl) -/
def utf_Decode.l0 : Nat → ByteArray → Int → Int → Int → Int → Option (Int × Int × Int)
  | 0, _, _, _, _, _ => none
  | k + 1, x0, x1, x7, x8, x10 => if x10 < x8 then (if 0 ≤ wrap64 (x1 + x10) then (if wrap64 (x1 + x10) < (x0.size : Int) then (if bt x0 (wrap64 (x1 + x10)) / 64 = 2 then utf_Decode.l0 k x0 x1 (Go.bits .or .i32 (wrap32 (x7 * 64)) (bt x0 (wrap64 (x1 + x10)) % 64)) x8 (wrap64 (x10 + 1)) else some (0, 0, 10)) else none) else none) else ((utf_Length.f x7).bind fun t => if t = x8 then some (x7, wrap64 (x1 + x8), 0) else some (0, 0, 10))
def utf_Decode.f (k : Nat) (a0 : ByteArray) (a1 : Int) : Option (Int × Int × Int) :=
  if a1 < 0 then some (0, 0, 2) else if a1 ≥ (a0.size : Int) then some (0, 0, 2)
  else if bt a0 a1 < 128 then some (bt a0 a1, wrap64 (a1 + 1), 0)
  else if bt a0 a1 ≥ 194 ∧ bt a0 a1 < 224 then (if 2 > wrap64 ((a0.size : Int) - a1) then some (0, 0, 10) else utf_Decode.l0 k a0 a1 (bt a0 a1 % 32) 2 1)
  else if bt a0 a1 ≥ 224 ∧ bt a0 a1 < 240 then (if 3 > wrap64 ((a0.size : Int) - a1) then some (0, 0, 10) else utf_Decode.l0 k a0 a1 (bt a0 a1 % 16) 3 1)
  else if bt a0 a1 ≥ 240 ∧ bt a0 a1 < 245 then (if 4 > wrap64 ((a0.size : Int) - a1) then some (0, 0, 10) else utf_Decode.l0 k a0 a1 (bt a0 a1 % 8) 4 1)
  else some (0, 0, 10)
theorem utf_Decode.mono_l : ∀ k, (∀ y0 y1 y2 y3 y4, LeO (utf_Decode.l0 k y0 y1 y2 y3 y4) (utf_Decode.l0 (k + 1) y0 y1 y2 y3 y4))
  | 0 => fun _ _ _ _ _ r h => by simp [utf_Decode.l0] at h
  | k + 1 => by
    have ih0 := utf_Decode.mono_l k
    intro y0 y1 y2 y3 y4
    unfold utf_Decode.l0
    repeat' first
      | exact ih0 _ _ _ _ _
      | exact LeO.refl _
      | refine LeO.ite ?_ ?_
      | refine LeO.bind ?_ (fun _ => ?_)
theorem utf_Decode.mono : ∀ a0 a1 k, LeO (utf_Decode.f k a0 a1) (utf_Decode.f (k + 1) a0 a1) := by
  intro a0 a1 k
  have ih0 := utf_Decode.mono_l k
  unfold utf_Decode.f
  repeat' first
      | exact ih0 _ _ _ _ _
      | exact LeO.refl _
      | refine LeO.ite ?_ ?_
set_option maxHeartbeats 8000000 in
set_option maxRecDepth 100000 in
theorem utf_Decode.calls (k : Nat) (a0 : ByteArray) (a1 : Int) (r1 r2 r3 : Int) (w : World) (h : utf_Decode.f k a0 a1 = some (r1, r2, r3)) :
    Calls Tryz.prog 83 #[.string a0, .int .i64 a1] w fun e w' => e = .returned (.tuple #[.int .i32 r1, .int .i64 r2, .int .i64 r3]) ∧ Drawn0 w w' := by
  have H := h
  clear h
  unfold utf_Decode.f at H
  by_cases c1 : a1 < 0
  · rw [if_pos c1] at H
    have c1b : decide (a1 < 0) = true := decide_eq_true c1
    clear c1
    simp only [Option.some.injEq, Prod.mk.injEq] at H
    obtain ⟨rfl, rfl, rfl⟩ := H
    go_enter Tryz.func83, Tryz.ntmps83
    go_wp2
    go_step3
    go_wp2
    rw [Exit.noGoto_ret]
    go_ret3
    exact ⟨rfl, Drawn0.refl _⟩
  · rw [if_neg c1] at H
    have c1b : decide (a1 < 0) = false := decide_eq_false c1
    have c1p : 0 ≤ a1 := by omega
    clear c1
    by_cases c2 : a1 ≥ (a0.size : Int)
    · rw [if_pos c2] at H
      have c2b : decide ((a0.size : Int) ≤ a1) = true := decide_eq_true c2
      clear c2
      simp only [Option.some.injEq, Prod.mk.injEq] at H
      obtain ⟨rfl, rfl, rfl⟩ := H
      go_enter Tryz.func83, Tryz.ntmps83
      go_wp2
      go_step3
      go_wp2
      rw [Exit.noGoto_ret]
      go_ret3
      exact ⟨rfl, Drawn0.refl _⟩
    · rw [if_neg c2] at H
      have c2b : decide ((a0.size : Int) ≤ a1) = false := decide_eq_false c2
      have c2p : a1 < (a0.size : Int) := by omega
      have hb := bt_at a0 a1
      have hr := bt_range a0 a1
      clear c2
      by_cases c3 : bt a0 a1 < 128
      · rw [if_pos c3] at H
        have c3b : decide (bt a0 a1 < 128) = true := decide_eq_true c3
        simp only [Option.some.injEq, Prod.mk.injEq] at H
        obtain ⟨rfl, rfl, rfl⟩ := H
        go_enter Tryz.func83, Tryz.ntmps83
        go_wp2
        go_step3
        go_wp2
        rw [Exit.noGoto_ret]
        go_ret3
        exact ⟨rfl, Drawn0.refl _⟩
      · rw [if_neg c3] at H
        have c3p : 128 ≤ bt a0 a1 := by omega
        clear c3
        by_cases c4 : bt a0 a1 < 194
        · rw [if_neg (by omega), if_neg (by omega), if_neg (by omega)] at H
          have H' := Aside0.mk H
          clear H
          go_enter Tryz.func83, Tryz.ntmps83
          go_wp2
          refine wp_scope_jumps 0 (fun a w' => (a.tmps.size = 93 ∧ a.defers = []) ∧ Aside0 (some ((0 : Int), (0 : Int), (10 : Int)) = some (r1, r2, r3)) ∧ Drawn0 w w') (fun _ _ => 0) rfl ?first ?pass
          case pass =>
            clear H'
            rintro ⟨tm, df⟩ w2 ⟨⟨hz, hd⟩, H2, ⟨nd, rfl⟩⟩
            have H3 := H2.out
            clear H2
            simp only [Option.some.injEq, Prod.mk.injEq] at H3
            obtain ⟨rfl, rfl, rfl⟩ := H3
            replace hd : df = [] := hd
            subst hd
            have HZ := Lib.hid hz
            clear hz
            go_wp2
            go_ret3
            have hz := HZ.out
            exact ⟨by simp [Array.getD, hz], ⟨_, rfl⟩⟩
          case first =>
            go_wp2
            go_step3
            go_simp
            exact ⟨rfl, ⟨rfl, rfl⟩, H', Drawn0.refl _⟩
        · by_cases c5 : bt a0 a1 < 224
          · rw [if_pos (by omega)] at H
            by_cases cn : (2 : Int) > wrap64 ((a0.size : Int) - a1)
            · rw [if_pos cn] at H
              have H' := Aside0.mk H
              clear H
              have cnb : decide (wrap64 ((a0.size : Int) - a1) < 2) = true := decide_eq_true cn
              clear cn
              go_enter Tryz.func83, Tryz.ntmps83
              go_wp2
              refine wp_scope_jumps 0 (fun a w' => (a.tmps.size = 93 ∧ a.defers = []) ∧ Aside0 (some ((0 : Int), (0 : Int), (10 : Int)) = some (r1, r2, r3)) ∧ Drawn0 w w') (fun _ _ => 0) rfl ?first ?pass
              case pass =>
                clear H'
                rintro ⟨tm, df⟩ w2 ⟨⟨hz, hd⟩, H2, ⟨nd, rfl⟩⟩
                have H3 := H2.out
                clear H2
                simp only [Option.some.injEq, Prod.mk.injEq] at H3
                obtain ⟨rfl, rfl, rfl⟩ := H3
                replace hd : df = [] := hd
                subst hd
                have HZ := Lib.hid hz
                clear hz
                go_wp2
                go_ret3
                have hz := HZ.out
                exact ⟨by simp [Array.getD, hz], ⟨_, rfl⟩⟩
              case first =>
                go_wp2
                go_step3
                go_simp
                exact ⟨rfl, ⟨rfl, rfl⟩, H', Drawn0.refl _⟩
            · rw [if_neg cn] at H
              have H' := Aside0.mk H
              clear H
              have cnb : decide (wrap64 ((a0.size : Int) - a1) < 2) = false := decide_eq_false cn
              clear cn
              go_enter Tryz.func83, Tryz.ntmps83
              go_wp2
              refine wp_scope_jumps 0 (fun a w' => (a.tmps.size = 93 ∧ a.defers = []) ∧ Aside0 (some ((0 : Int), (0 : Int), (10 : Int)) = some (r1, r2, r3)) ∧ Drawn0 w w') (fun _ _ => 0) rfl ?first ?pass
              case pass =>
                clear H'
                rintro ⟨tm, df⟩ w2 ⟨⟨hz, hd⟩, H2, ⟨nd, rfl⟩⟩
                have H3 := H2.out
                clear H2
                simp only [Option.some.injEq, Prod.mk.injEq] at H3
                obtain ⟨rfl, rfl, rfl⟩ := H3
                replace hd : df = [] := hd
                subst hd
                have HZ := Lib.hid hz
                clear hz
                go_wp2
                go_ret3
                have hz := HZ.out
                exact ⟨by simp [Array.getD, hz], ⟨_, rfl⟩⟩
              case first =>
                go_wp2
                go_loopg [7, 10] k (fun kq v7 v10 w' => ∃ (x7 x10 : Int), v7 = .int .i32 x7 ∧ v10 = .int .i64 x10 ∧ Aside0 (utf_Decode.l0 kq a0 a1 x7 2 x10 = some (r1, r2, r3)) ∧ Aside0 (kq ≤ k) ∧ Drawn0 w w')
                case atStart => exact ⟨_, _, rfl, rfl, H', ⟨Nat.le_refl _⟩, Drawn0.refl _⟩
                case round =>
                  clear H' hb hr
                  obtain ⟨x7, x10, rfl, rfl, HA, HK, ⟨nd, rfl⟩⟩ := hrel
                  cases gk with
                  | zero => exact absurd HA.out (by simp [utf_Decode.l0])
                  | succ k1 =>
                    have H := HA.out
                    clear HA
                    simp only [utf_Decode.l0] at H
                    by_cases d1 : x10 < 2
                    · rw [if_pos d1] at H
                      obtain ⟨j, hj⟩ : ∃ j, wrap64 (a1 + x10) = j := ⟨_, rfl⟩
                      rw [hj] at H
                      have hjw : IntKind.i64.wrap (a1 + x10) = j := (i64_w _).trans hj
                      by_cases d2 : 0 ≤ j
                      · rw [if_pos d2] at H
                        by_cases d3 : j < (a0.size : Int)
                        · rw [if_pos d3] at H
                          have hb := bt_at a0 j
                          have hr := bt_range a0 j
                          by_cases d4 : bt a0 j / 64 = 2
                          · rw [if_pos d4] at H
                            have H' := Aside0.mk H
                            have m1 : (Go.bits .and .u8 (bt a0 j) 192 != 128) = false := by rw [u8_and192 hr.1 hr.2, d4]; rfl
                            clear H d4
                            go_wp2
                            go_roundg k1
                            case measure => have := HK.out; omega
                            case rel => exact ⟨_, _, rfl, rfl, H', ⟨by have := HK.out; omega⟩, ⟨_, rfl⟩⟩
                          · rw [if_neg d4] at H
                            have H' := Aside0.mk H
                            have m1 : (Go.bits .and .u8 (bt a0 j) 192 != 128) = true := by rw [u8_and192 hr.1 hr.2, bne_iff_ne]; omega
                            clear H d4
                            go_wp2
                            go_step3
                            go_simp
                            exact ⟨rfl, ⟨rfl, rfl⟩, H', ⟨_, rfl⟩⟩
                        · rw [if_neg d3] at H
                          cases H
                      · rw [if_neg d2] at H
                        cases H
                    · rw [if_neg d1] at H
                      replace H := Option.bind_eq_some_iff.mp H
                      obtain ⟨t, A1, H⟩ := H
                      have A1' := Aside0.mk A1
                      clear A1
                      by_cases d2 : t = 2
                      · rw [if_pos d2] at H
                        simp only [Option.some.injEq, Prod.mk.injEq] at H
                        obtain ⟨rfl, rfl, rfl⟩ := H
                        have d2b : (t == 2) = true := beq_iff_eq.mpr d2
                        have d2c : (t != 2) = false := bne_eq_false_iff_eq.mpr d2
                        clear d2
                        go_wp2_with fail
                        (with_reducible refine (utf_Length.calls x7 t _ A1'.out).mono ?_)
                        rintro e w' ⟨rfl, ⟨nd2, rfl⟩⟩
                        go_wp2
                        rw [jump_ret]
                        go_ret3
                        exact ⟨rfl, ⟨_, rfl⟩⟩
                      · rw [if_neg d2] at H
                        have H' := Aside0.mk H
                        have d2b : (t == 2) = false := beq_eq_false_iff_ne.mpr d2
                        have d2c : (t != 2) = true := bne_iff_ne.mpr d2
                        clear d2 H
                        go_wp2_with fail
                        (with_reducible refine (utf_Length.calls x7 t _ A1'.out).mono ?_)
                        rintro e w' ⟨rfl, ⟨nd2, rfl⟩⟩
                        go_wp2
                        go_step3
                        go_simp
                        exact ⟨rfl, ⟨rfl, rfl⟩, H', ⟨_, rfl⟩⟩
          · by_cases c6 : bt a0 a1 < 240
            · rw [if_neg (by omega), if_pos (by omega)] at H
              by_cases cn : (3 : Int) > wrap64 ((a0.size : Int) - a1)
              · rw [if_pos cn] at H
                have H' := Aside0.mk H
                clear H
                have cnb : decide (wrap64 ((a0.size : Int) - a1) < 3) = true := decide_eq_true cn
                clear cn
                go_enter Tryz.func83, Tryz.ntmps83
                go_wp2
                refine wp_scope_jumps 0 (fun a w' => (a.tmps.size = 93 ∧ a.defers = []) ∧ Aside0 (some ((0 : Int), (0 : Int), (10 : Int)) = some (r1, r2, r3)) ∧ Drawn0 w w') (fun _ _ => 0) rfl ?first ?pass
                case pass =>
                  clear H'
                  rintro ⟨tm, df⟩ w2 ⟨⟨hz, hd⟩, H2, ⟨nd, rfl⟩⟩
                  have H3 := H2.out
                  clear H2
                  simp only [Option.some.injEq, Prod.mk.injEq] at H3
                  obtain ⟨rfl, rfl, rfl⟩ := H3
                  replace hd : df = [] := hd
                  subst hd
                  have HZ := Lib.hid hz
                  clear hz
                  go_wp2
                  go_ret3
                  have hz := HZ.out
                  exact ⟨by simp [Array.getD, hz], ⟨_, rfl⟩⟩
                case first =>
                  go_wp2
                  go_step3
                  go_simp
                  exact ⟨rfl, ⟨rfl, rfl⟩, H', Drawn0.refl _⟩
              · rw [if_neg cn] at H
                have H' := Aside0.mk H
                clear H
                have cnb : decide (wrap64 ((a0.size : Int) - a1) < 3) = false := decide_eq_false cn
                clear cn
                go_enter Tryz.func83, Tryz.ntmps83
                go_wp2
                refine wp_scope_jumps 0 (fun a w' => (a.tmps.size = 93 ∧ a.defers = []) ∧ Aside0 (some ((0 : Int), (0 : Int), (10 : Int)) = some (r1, r2, r3)) ∧ Drawn0 w w') (fun _ _ => 0) rfl ?first ?pass
                case pass =>
                  clear H'
                  rintro ⟨tm, df⟩ w2 ⟨⟨hz, hd⟩, H2, ⟨nd, rfl⟩⟩
                  have H3 := H2.out
                  clear H2
                  simp only [Option.some.injEq, Prod.mk.injEq] at H3
                  obtain ⟨rfl, rfl, rfl⟩ := H3
                  replace hd : df = [] := hd
                  subst hd
                  have HZ := Lib.hid hz
                  clear hz
                  go_wp2
                  go_ret3
                  have hz := HZ.out
                  exact ⟨by simp [Array.getD, hz], ⟨_, rfl⟩⟩
                case first =>
                  go_wp2
                  go_loopg [7, 10] k (fun kq v7 v10 w' => ∃ (x7 x10 : Int), v7 = .int .i32 x7 ∧ v10 = .int .i64 x10 ∧ Aside0 (utf_Decode.l0 kq a0 a1 x7 3 x10 = some (r1, r2, r3)) ∧ Aside0 (kq ≤ k) ∧ Drawn0 w w')
                  case atStart => exact ⟨_, _, rfl, rfl, H', ⟨Nat.le_refl _⟩, Drawn0.refl _⟩
                  case round =>
                    clear H' hb hr
                    obtain ⟨x7, x10, rfl, rfl, HA, HK, ⟨nd, rfl⟩⟩ := hrel
                    cases gk with
                    | zero => exact absurd HA.out (by simp [utf_Decode.l0])
                    | succ k1 =>
                      have H := HA.out
                      clear HA
                      simp only [utf_Decode.l0] at H
                      by_cases d1 : x10 < 3
                      · rw [if_pos d1] at H
                        obtain ⟨j, hj⟩ : ∃ j, wrap64 (a1 + x10) = j := ⟨_, rfl⟩
                        rw [hj] at H
                        have hjw : IntKind.i64.wrap (a1 + x10) = j := (i64_w _).trans hj
                        by_cases d2 : 0 ≤ j
                        · rw [if_pos d2] at H
                          by_cases d3 : j < (a0.size : Int)
                          · rw [if_pos d3] at H
                            have hb := bt_at a0 j
                            have hr := bt_range a0 j
                            by_cases d4 : bt a0 j / 64 = 2
                            · rw [if_pos d4] at H
                              have H' := Aside0.mk H
                              have m1 : (Go.bits .and .u8 (bt a0 j) 192 != 128) = false := by rw [u8_and192 hr.1 hr.2, d4]; rfl
                              clear H d4
                              go_wp2
                              go_roundg k1
                              case measure => have := HK.out; omega
                              case rel => exact ⟨_, _, rfl, rfl, H', ⟨by have := HK.out; omega⟩, ⟨_, rfl⟩⟩
                            · rw [if_neg d4] at H
                              have H' := Aside0.mk H
                              have m1 : (Go.bits .and .u8 (bt a0 j) 192 != 128) = true := by rw [u8_and192 hr.1 hr.2, bne_iff_ne]; omega
                              clear H d4
                              go_wp2
                              go_step3
                              go_simp
                              exact ⟨rfl, ⟨rfl, rfl⟩, H', ⟨_, rfl⟩⟩
                          · rw [if_neg d3] at H
                            cases H
                        · rw [if_neg d2] at H
                          cases H
                      · rw [if_neg d1] at H
                        replace H := Option.bind_eq_some_iff.mp H
                        obtain ⟨t, A1, H⟩ := H
                        have A1' := Aside0.mk A1
                        clear A1
                        by_cases d2 : t = 3
                        · rw [if_pos d2] at H
                          simp only [Option.some.injEq, Prod.mk.injEq] at H
                          obtain ⟨rfl, rfl, rfl⟩ := H
                          have d2b : (t == 3) = true := beq_iff_eq.mpr d2
                          have d2c : (t != 3) = false := bne_eq_false_iff_eq.mpr d2
                          clear d2
                          go_wp2_with fail
                          (with_reducible refine (utf_Length.calls x7 t _ A1'.out).mono ?_)
                          rintro e w' ⟨rfl, ⟨nd2, rfl⟩⟩
                          go_wp2
                          rw [jump_ret]
                          go_ret3
                          exact ⟨rfl, ⟨_, rfl⟩⟩
                        · rw [if_neg d2] at H
                          have H' := Aside0.mk H
                          have d2b : (t == 3) = false := beq_eq_false_iff_ne.mpr d2
                          have d2c : (t != 3) = true := bne_iff_ne.mpr d2
                          clear d2 H
                          go_wp2_with fail
                          (with_reducible refine (utf_Length.calls x7 t _ A1'.out).mono ?_)
                          rintro e w' ⟨rfl, ⟨nd2, rfl⟩⟩
                          go_wp2
                          go_step3
                          go_simp
                          exact ⟨rfl, ⟨rfl, rfl⟩, H', ⟨_, rfl⟩⟩
            · by_cases c7 : bt a0 a1 < 245
              · rw [if_neg (by omega), if_neg (by omega), if_pos (by omega)] at H
                by_cases cn : (4 : Int) > wrap64 ((a0.size : Int) - a1)
                · rw [if_pos cn] at H
                  have H' := Aside0.mk H
                  clear H
                  have cnb : decide (wrap64 ((a0.size : Int) - a1) < 4) = true := decide_eq_true cn
                  clear cn
                  go_enter Tryz.func83, Tryz.ntmps83
                  go_wp2
                  refine wp_scope_jumps 0 (fun a w' => (a.tmps.size = 93 ∧ a.defers = []) ∧ Aside0 (some ((0 : Int), (0 : Int), (10 : Int)) = some (r1, r2, r3)) ∧ Drawn0 w w') (fun _ _ => 0) rfl ?first ?pass
                  case pass =>
                    clear H'
                    rintro ⟨tm, df⟩ w2 ⟨⟨hz, hd⟩, H2, ⟨nd, rfl⟩⟩
                    have H3 := H2.out
                    clear H2
                    simp only [Option.some.injEq, Prod.mk.injEq] at H3
                    obtain ⟨rfl, rfl, rfl⟩ := H3
                    replace hd : df = [] := hd
                    subst hd
                    have HZ := Lib.hid hz
                    clear hz
                    go_wp2
                    go_ret3
                    have hz := HZ.out
                    exact ⟨by simp [Array.getD, hz], ⟨_, rfl⟩⟩
                  case first =>
                    go_wp2
                    go_step3
                    go_simp
                    exact ⟨rfl, ⟨rfl, rfl⟩, H', Drawn0.refl _⟩
                · rw [if_neg cn] at H
                  have H' := Aside0.mk H
                  clear H
                  have cnb : decide (wrap64 ((a0.size : Int) - a1) < 4) = false := decide_eq_false cn
                  clear cn
                  go_enter Tryz.func83, Tryz.ntmps83
                  go_wp2
                  refine wp_scope_jumps 0 (fun a w' => (a.tmps.size = 93 ∧ a.defers = []) ∧ Aside0 (some ((0 : Int), (0 : Int), (10 : Int)) = some (r1, r2, r3)) ∧ Drawn0 w w') (fun _ _ => 0) rfl ?first ?pass
                  case pass =>
                    clear H'
                    rintro ⟨tm, df⟩ w2 ⟨⟨hz, hd⟩, H2, ⟨nd, rfl⟩⟩
                    have H3 := H2.out
                    clear H2
                    simp only [Option.some.injEq, Prod.mk.injEq] at H3
                    obtain ⟨rfl, rfl, rfl⟩ := H3
                    replace hd : df = [] := hd
                    subst hd
                    have HZ := Lib.hid hz
                    clear hz
                    go_wp2
                    go_ret3
                    have hz := HZ.out
                    exact ⟨by simp [Array.getD, hz], ⟨_, rfl⟩⟩
                  case first =>
                    go_wp2
                    go_loopg [7, 10] k (fun kq v7 v10 w' => ∃ (x7 x10 : Int), v7 = .int .i32 x7 ∧ v10 = .int .i64 x10 ∧ Aside0 (utf_Decode.l0 kq a0 a1 x7 4 x10 = some (r1, r2, r3)) ∧ Aside0 (kq ≤ k) ∧ Drawn0 w w')
                    case atStart => exact ⟨_, _, rfl, rfl, H', ⟨Nat.le_refl _⟩, Drawn0.refl _⟩
                    case round =>
                      clear H' hb hr
                      obtain ⟨x7, x10, rfl, rfl, HA, HK, ⟨nd, rfl⟩⟩ := hrel
                      cases gk with
                      | zero => exact absurd HA.out (by simp [utf_Decode.l0])
                      | succ k1 =>
                        have H := HA.out
                        clear HA
                        simp only [utf_Decode.l0] at H
                        by_cases d1 : x10 < 4
                        · rw [if_pos d1] at H
                          obtain ⟨j, hj⟩ : ∃ j, wrap64 (a1 + x10) = j := ⟨_, rfl⟩
                          rw [hj] at H
                          have hjw : IntKind.i64.wrap (a1 + x10) = j := (i64_w _).trans hj
                          by_cases d2 : 0 ≤ j
                          · rw [if_pos d2] at H
                            by_cases d3 : j < (a0.size : Int)
                            · rw [if_pos d3] at H
                              have hb := bt_at a0 j
                              have hr := bt_range a0 j
                              by_cases d4 : bt a0 j / 64 = 2
                              · rw [if_pos d4] at H
                                have H' := Aside0.mk H
                                have m1 : (Go.bits .and .u8 (bt a0 j) 192 != 128) = false := by rw [u8_and192 hr.1 hr.2, d4]; rfl
                                clear H d4
                                go_wp2
                                go_roundg k1
                                case measure => have := HK.out; omega
                                case rel => exact ⟨_, _, rfl, rfl, H', ⟨by have := HK.out; omega⟩, ⟨_, rfl⟩⟩
                              · rw [if_neg d4] at H
                                have H' := Aside0.mk H
                                have m1 : (Go.bits .and .u8 (bt a0 j) 192 != 128) = true := by rw [u8_and192 hr.1 hr.2, bne_iff_ne]; omega
                                clear H d4
                                go_wp2
                                go_step3
                                go_simp
                                exact ⟨rfl, ⟨rfl, rfl⟩, H', ⟨_, rfl⟩⟩
                            · rw [if_neg d3] at H
                              cases H
                          · rw [if_neg d2] at H
                            cases H
                        · rw [if_neg d1] at H
                          replace H := Option.bind_eq_some_iff.mp H
                          obtain ⟨t, A1, H⟩ := H
                          have A1' := Aside0.mk A1
                          clear A1
                          by_cases d2 : t = 4
                          · rw [if_pos d2] at H
                            simp only [Option.some.injEq, Prod.mk.injEq] at H
                            obtain ⟨rfl, rfl, rfl⟩ := H
                            have d2b : (t == 4) = true := beq_iff_eq.mpr d2
                            have d2c : (t != 4) = false := bne_eq_false_iff_eq.mpr d2
                            clear d2
                            go_wp2_with fail
                            (with_reducible refine (utf_Length.calls x7 t _ A1'.out).mono ?_)
                            rintro e w' ⟨rfl, ⟨nd2, rfl⟩⟩
                            go_wp2
                            rw [jump_ret]
                            go_ret3
                            exact ⟨rfl, ⟨_, rfl⟩⟩
                          · rw [if_neg d2] at H
                            have H' := Aside0.mk H
                            have d2b : (t == 4) = false := beq_eq_false_iff_ne.mpr d2
                            have d2c : (t != 4) = true := bne_iff_ne.mpr d2
                            clear d2 H
                            go_wp2_with fail
                            (with_reducible refine (utf_Length.calls x7 t _ A1'.out).mono ?_)
                            rintro e w' ⟨rfl, ⟨nd2, rfl⟩⟩
                            go_wp2
                            go_step3
                            go_simp
                            exact ⟨rfl, ⟨rfl, rfl⟩, H', ⟨_, rfl⟩⟩
              · rw [if_neg (by omega), if_neg (by omega), if_neg (by omega)] at H
                have H' := Aside0.mk H
                clear H
                go_enter Tryz.func83, Tryz.ntmps83
                go_wp2
                refine wp_scope_jumps 0 (fun a w' => (a.tmps.size = 93 ∧ a.defers = []) ∧ Aside0 (some ((0 : Int), (0 : Int), (10 : Int)) = some (r1, r2, r3)) ∧ Drawn0 w w') (fun _ _ => 0) rfl ?first ?pass
                case pass =>
                  clear H'
                  rintro ⟨tm, df⟩ w2 ⟨⟨hz, hd⟩, H2, ⟨nd, rfl⟩⟩
                  have H3 := H2.out
                  clear H2
                  simp only [Option.some.injEq, Prod.mk.injEq] at H3
                  obtain ⟨rfl, rfl, rfl⟩ := H3
                  replace hd : df = [] := hd
                  subst hd
                  have HZ := Lib.hid hz
                  clear hz
                  go_wp2
                  go_ret3
                  have hz := HZ.out
                  exact ⟨by simp [Array.getD, hz], ⟨_, rfl⟩⟩
                case first =>
                  go_wp2
                  go_step3
                  go_simp
                  exact ⟨rfl, ⟨rfl, rfl⟩, H', Drawn0.refl _⟩

/-! ### utf_Runes: function 45 -/
def utf_Runes.l0 : Nat → ByteArray → List Int → Int → Option (List Int × Int × Int)
 | 0, _, _, _ => none
 | k + 1, x0, x5, x6 => if x6 < (x0.size : Int) then ((utf_Decode.f k x0 x6).bind fun bt102 => (if bt102.2.2 = 0 then (if x5.length < 35184372088832 then (utf_Runes.l0 k x0 (x5 ++ [bt102.1]) bt102.2.1) else (none)) else (some (([] : List Int), x6, bt102.2.2)))) else (some (x5, (x0.size : Int), 0))
def utf_Runes.f (k : Nat) (a0 : ByteArray) : Option (List Int × Int × Int) := utf_Runes.l0 k a0 ([] : List Int) 0
theorem utf_Runes.mono_l : ∀ k, (∀ y0 y1 y2, LeO (utf_Runes.l0 k y0 y1 y2) (utf_Runes.l0 (k + 1) y0 y1 y2))
 | 0 => fun _ _ _ r h => by simp [utf_Runes.l0] at h
 | k + 1 => by
  have ih0 := utf_Runes.mono_l k
  ·intro y0 y1 y2
   unfold utf_Runes.l0
   repeat' first
   | (with_reducible exact ih0 _ _ _)
   | (with_reducible exact utf_Decode.mono _ _ _)
   | (with_reducible exact LeO.refl _)
   | exact ih0 _ _ _
   | exact utf_Decode.mono _ _ _
   | exact LeO.none _
   | refine LeO.ite ?_ ?_
   | refine LeO.bind ?_ (fun _ => ?_)
theorem utf_Runes.mono : ∀ a0 k, LeO (utf_Runes.f k a0) (utf_Runes.f (k + 1) a0) := by
 intro a0 k
 have ih0 := utf_Runes.mono_l k
 unfold utf_Runes.f
 repeat' first
   | (with_reducible exact ih0 _ _ _)
   | (with_reducible exact utf_Decode.mono _ _ _)
   | (with_reducible exact LeO.refl _)
   | exact ih0 _ _ _
   | exact utf_Decode.mono _ _ _
   | exact LeO.none _
   | refine LeO.ite ?_ ?_
   | refine LeO.bind ?_ (fun _ => ?_)
set_option maxHeartbeats 8000000 in
set_option maxRecDepth 100000 in
theorem utf_Runes.calls (k : Nat) (a0 : ByteArray) (r1 : List Int) (r2 : Int) (r3 : Int) (w : World) (h : utf_Runes.f k a0 = some (r1, r2, r3)) :
  Calls Tryz.prog 45 #[.string a0] w fun e w' => ∃ v0_ : Value, e = .returned (.tuple #[v0_, .int .i64 r2, .int .i64 r3]) ∧ Kd.R (Kd.int .i32) 21 w' w.heap.size (fun _ => True) v0_ r1 ∧ Below w.heap.size w w' := by
 have HB := aM (Below.refl w.heap.size w)
 have H := h
 clear h
 unfold utf_Runes.f at H
 have H' := aM H
 clear H
 go_enter Tryz.func45, Tryz.ntmps45
 go_wp2
 go_loopg [5, 6] k (fun kq v5 v6 w' => ∃ (x5_1 : List Int) (x6_1 : Int), v6 = .int .i64 x6_1 ∧ Aside0 (utf_Runes.l0 kq a0 x5_1 x6_1 = some (r1, r2, r3)) ∧ Aside0 (kq ≤ k) ∧ Aside0 (Kd.R (Kd.int .i32) 21 w' w.heap.size (fun _ => True) v5 x5_1) ∧ Aside0 (Below w.heap.size w w'))
 case atStart => exact ⟨(([] : List Int)), (0), zP, H', ⟨Nat.le_refl _⟩, ⟨zL⟩, ⟨zB⟩⟩
 case round =>
  clear H'
  obtain ⟨x5_1, x6_1, rfl, HA, HK1, HO_5, HB⟩ := hrel
  cases gk with
  | zero => exact absurd HA.out (by simp [utf_Runes.l0])
  | succ k1 =>
   have H := HA.out
   clear HA
   simp only [utf_Runes.l0] at H
   by_cases c2 : x6_1 < (a0.size : Int)
   ·rw [if_pos c2] at H
    have c2b0 : decide (x6_1 < (a0.size : Int)) = true := decide_eq_true c2
    clear c2
    obtain ⟨⟨t102, t103, t104⟩, A3, H⟩ := zO H
    try dsimp only at H
    by_cases c4 : t104 = 0
    ·rw [if_pos c4] at H
     have c4b0 : (t104 == 0) = true := beq_iff_eq.mpr c4
     have c4b1 : (t104 != 0) = false := bne_eq_false_iff_eq.mpr c4
     clear c4
     by_cases c5 : x5_1.length < 35184372088832
     ·rw [if_pos c5] at H
      have LMc5 := aM c5
      clear c5
      obtain ⟨y105, hy105⟩ : ∃ y_ : List Int, y_ = (x5_1 ++ [t102]) := ⟨_, rfl⟩
      replace H : (utf_Runes.l0 k1 a0 y105 t103) = some (r1, r2, r3) := zY hy105 H
      have Ny105 := aM hy105
      clear hy105
      have H' := aM H
      clear H
      go_wp2_with (first | ((with_reducible refine gate_callee (f := 83) rfl ?_); refine goesL_ (some 17) rfl rfl Tryz.func83 zK rfl #[.string a0, .int .i64 x6_1] rfl zM ?_; (with_reducible refine (utf_Decode.calls k1 a0 x6_1 t102 t103 t104 _ A3.out).mono ?_); rintro e w' ⟨rfl, ⟨nd, rfl⟩⟩; refine ⟨_, rfl, ?_⟩) | ((with_reducible refine gate_builtin (b := .append) (xs := #[.tmp 25, .tmp 27]) rfl ?_); at_builtin; refine Kd.R_append (Kd.int .i32) (w0 := w) w.heap.size rfl (.tmp 25) (.tmp 27) 65 21 (.int .i32 0) 4 rfl Tryz.underlying65 info21 rfl (by decide) (by omega) u5 x5_1 t102 [.int .i32 t102] (fun _ => True) (fun _ => False) rfl rfl ?aP (fun _ hk => hk.elim) ?aF ?aO ?aB ?aS ?aL ?_; (case aP => exact rfl); (case aB => exact zB); (case aF => exact (fun _ _ => trivial)); (case aO => exact (zR HO_5)); (case aS => exact (below_size zB)); (case aL => have := LMc5.out; omega); intro v106 w6 ho hb hg hat; rw [← Ny105.out] at ho; have n_ := zI (aM (hb)) (aM (ho)); clear HB HO_5; obtain ⟨HB, HO107⟩ := n_; clear ho hb hg hat))
      go_roundg k1
      case measure => have := HK1.out; omega
      case rel => exact ⟨(y105), (t103), zP, H', ⟨by have := HK1.out; omega⟩, ⟨zR HO107⟩, ⟨zB⟩⟩
     ·rw [if_neg c5] at H
      exact absurd H (by simp)
    ·rw [if_neg c4] at H
     have c4b0 : (t104 == 0) = false := beq_eq_false_iff_ne.mpr c4
     have c4b1 : (t104 != 0) = true := bne_iff_ne.mpr c4
     simp only [Option.some.injEq, Prod.mk.injEq] at H
     obtain ⟨rfl, rfl, rfl⟩ := H
     go_wp2_with (first | ((with_reducible refine gate_callee (f := 83) rfl ?_); refine goesL_ (some 17) rfl rfl Tryz.func83 zK rfl #[.string a0, .int .i64 x6_1] rfl zM ?_; (with_reducible refine (utf_Decode.calls k1 a0 x6_1 t102 t103 t104 _ A3.out).mono ?_); rintro e w' ⟨rfl, ⟨nd, rfl⟩⟩; refine ⟨_, rfl, ?_⟩))
     go_ret3
     exact ⟨_, zE, zL, zB⟩
   ·rw [if_neg c2] at H
    have c2b0 : decide (x6_1 < (a0.size : Int)) = false := decide_eq_false c2
    clear c2
    simp only [Option.some.injEq, Prod.mk.injEq] at H
    obtain ⟨rfl, rfl, rfl⟩ := H
    go_wp2
    go_ret3
    exact ⟨_, zE, zR HO_5, zB⟩

/-! ### slices_Index_int_int: function 201 -/
def slices_Index_int_int.l0 : Nat → List Int → Int → Int → Int → Option (Int)
 | 0, _, _, _, _ => none
 | k + 1, x0, x1, x7, x8 => if x8 < x7 then (if 0 ≤ x8 then (if x8 < (x0.length : Int) then (if x1 = (rd x0 x8) then (some x8) else (slices_Index_int_int.l0 k x0 x1 x7 (wrap64 (x8 + 1)))) else (none)) else (none)) else (some (-1))
def slices_Index_int_int.f (k : Nat) (l0 : List Int) (a1 : Int) : Option (Int) := slices_Index_int_int.l0 k l0 a1 (l0.length : Int) 0
theorem slices_Index_int_int.mono_l : ∀ k, (∀ y0 y1 y2 y3, LeO (slices_Index_int_int.l0 k y0 y1 y2 y3) (slices_Index_int_int.l0 (k + 1) y0 y1 y2 y3))
 | 0 => fun _ _ _ _ r h => by simp [slices_Index_int_int.l0] at h
 | k + 1 => by
  have ih0 := slices_Index_int_int.mono_l k
  ·intro y0 y1 y2 y3
   unfold slices_Index_int_int.l0
   repeat' first
   | (with_reducible exact ih0 _ _ _ _)
   | (with_reducible exact LeO.refl _)
   | exact ih0 _ _ _ _
   | exact LeO.none _
   | refine LeO.ite ?_ ?_
   | refine LeO.bind ?_ (fun _ => ?_)
theorem slices_Index_int_int.mono : ∀ a0 a1 k, LeO (slices_Index_int_int.f k a0 a1) (slices_Index_int_int.f (k + 1) a0 a1) := by
 intro a0 a1 k
 have ih0 := slices_Index_int_int.mono_l k
 unfold slices_Index_int_int.f
 repeat' first
   | (with_reducible exact ih0 _ _ _ _)
   | (with_reducible exact LeO.refl _)
   | exact ih0 _ _ _ _
   | exact LeO.none _
   | refine LeO.ite ?_ ?_
   | refine LeO.bind ?_ (fun _ => ?_)
set_option maxHeartbeats 8000000 in
set_option maxRecDepth 100000 in
theorem slices_Index_int_int.calls (k : Nat) (A0 : Option Addr) (c0 : Nat) (l0 : List Int) (a1 : Int) (r : Int) (w : World) (hr0 : Kd.C (Kd.int .i64) w A0 l0.length l0) (hc0 : l0.length ≤ c0) (h : slices_Index_int_int.f k l0 a1 = some r) :
  Calls Tryz.prog 201 #[.slice A0 l0.length c0, .int .i64 a1] w fun e w' => e = .returned (.int .i64 r) ∧ Drawn0 w w' := by
 have HR0 := aM hr0
 have HC0 := aM hc0
 clear hr0 hc0
 have H := h
 clear h
 unfold slices_Index_int_int.f at H
 have H' := aM H
 clear H
 go_enter Tryz.func201, Tryz.ntmps201
 go_wp2
 go_loopg [8] k (fun kq v8 w' => ∃ (x8_1 : Int), v8 = .int .i64 x8_1 ∧ Aside0 (slices_Index_int_int.l0 kq l0 a1 (l0.length : Int) x8_1 = some r) ∧ Aside0 (kq ≤ k) ∧ Drawn0 w w')
 case atStart => exact ⟨(0), zP, H', ⟨Nat.le_refl _⟩, zD⟩
 case round =>
  clear H'
  try clear c2
  try clear p2
  obtain ⟨x8_1, rfl, HA, HK1, ⟨m1, rfl⟩⟩ := hrel
  cases gk with
  | zero => exact absurd HA.out (by simp [slices_Index_int_int.l0])
  | succ k1 =>
   have H := HA.out
   clear HA
   simp only [slices_Index_int_int.l0] at H
   by_cases c3 : x8_1 < (l0.length : Int)
   ·rw [if_pos c3] at H
    have c3b0 : decide (x8_1 < (l0.length : Int)) = true := decide_eq_true c3
    clear c3
    by_cases c4 : 0 ≤ x8_1
    ·rw [if_pos c4] at H
     have c4b0 : decide (0 ≤ x8_1) = true := decide_eq_true c4
     clear c4
     by_cases c5 : x8_1 < (l0.length : Int)
     ·rw [if_pos c5] at H
      have c5b0 : decide (x8_1 < (l0.length : Int)) = true := decide_eq_true c5
      clear c5
      by_cases c6 : a1 = (rd l0 x8_1)
      ·rw [if_pos c6] at H
       have c6b0 : (a1 == (rd l0 x8_1)) = true := beq_iff_eq.mpr c6
       have c6b1 : (a1 != (rd l0 x8_1)) = false := bne_eq_false_iff_eq.mpr c6
       clear c6
       obtain rfl := sI H
       have p108 : 0 ≤ (x8_1 : Int) := zoA
       have q108 : x8_1 < (l0.length : Int) := zoA
       obtain ⟨ad108, e108, hx108_0⟩ := Kd.at_int HR0.out x8_1 p108 q108
       cases e108
       replace p108 := eq_true p108
       replace q108 := eq_true q108
       go_wp2
       go_ret
       exact ⟨zP, zD⟩
      ·rw [if_neg c6] at H
       have c6b0 : (a1 == (rd l0 x8_1)) = false := beq_eq_false_iff_ne.mpr c6
       have c6b1 : (a1 != (rd l0 x8_1)) = true := bne_iff_ne.mpr c6
       have H' := aM H
       clear H
       have p108 : 0 ≤ (x8_1 : Int) := zoA
       have q108 : x8_1 < (l0.length : Int) := zoA
       obtain ⟨ad108, e108, hx108_0⟩ := Kd.at_int HR0.out x8_1 p108 q108
       cases e108
       replace p108 := eq_true p108
       replace q108 := eq_true q108
       go_wp2
       go_roundg k1
       case measure => have := HK1.out; omega
       case rel => exact ⟨(wrap64 (x8_1 + 1)), zP, H', ⟨by have := HK1.out; omega⟩, zD⟩
     ·rw [if_neg c5] at H
      exact absurd H (by simp)
    ·rw [if_neg c4] at H
     exact absurd H (by simp)
   ·rw [if_neg c3] at H
    have c3b0 : decide (x8_1 < (l0.length : Int)) = false := decide_eq_false c3
    clear c3
    obtain rfl := sI H
    go_wp2
    go_ret
    exact ⟨zP, zD⟩

/-! ### slices_Contains_int_int: function 172 -/
def slices_Contains_int_int.f (k : Nat) (l0 : List Int) (a1 : Int) : Option (Bool) := (slices_Index_int_int.f k l0 a1).bind fun t109 => (some (decide (t109 ≥ 0)))
theorem slices_Contains_int_int.mono : ∀ a0 a1 k, LeO (slices_Contains_int_int.f k a0 a1) (slices_Contains_int_int.f (k + 1) a0 a1) := by
 intro a0 a1 k
 unfold slices_Contains_int_int.f
 repeat' first
   | (with_reducible exact slices_Index_int_int.mono _ _ _)
   | (with_reducible exact LeO.refl _)
   | exact slices_Index_int_int.mono _ _ _
   | exact LeO.none _
   | refine LeO.ite ?_ ?_
   | refine LeO.bind ?_ (fun _ => ?_)
set_option maxHeartbeats 8000000 in
set_option maxRecDepth 100000 in
theorem slices_Contains_int_int.calls (k : Nat) (A0 : Option Addr) (c0 : Nat) (l0 : List Int) (a1 : Int) (r : Bool) (w : World) (hr0 : Kd.C (Kd.int .i64) w A0 l0.length l0) (hc0 : l0.length ≤ c0) (h : slices_Contains_int_int.f k l0 a1 = some r) :
  Calls Tryz.prog 172 #[.slice A0 l0.length c0, .int .i64 a1] w fun e w' => e = .returned (.bool r) ∧ Drawn0 w w' := by
 have HR0 := aM hr0
 have HC0 := aM hc0
 clear hr0 hc0
 have H := h
 clear h
 unfold slices_Contains_int_int.f at H
 obtain ⟨t109, A3, H⟩ := zO H
 obtain rfl := sI H
 go_enter Tryz.func172, Tryz.ntmps172
 go_wp2_with (first | ((with_reducible refine gate_callee (f := 201) rfl ?_); refine goesL_ (some 7) rfl rfl Tryz.func201 zK rfl #[.slice A0 l0.length c0, .int .i64 a1] rfl zM ?_; (with_reducible refine (slices_Index_int_int.calls k _ _ l0 a1 t109 _ ?side1 ?side2 A3.out).mono ?_); (case side1 => exact zC HR0.out); (case side2 => exact HC0.out); rintro e w' ⟨rfl, ⟨nd, rfl⟩⟩; refine ⟨_, rfl, ?_⟩))
 go_ret
 exact ⟨zP, zD⟩

/-! ### chars_letter: function 202, by hand (chars.letter.tpl) -/
def chars_letter.f (a0 : Int) : Option (Bool) := some (((((((((((((((((((((((((((((((decide (65 ≤ a0) && decide (a0 ≤ 90)) || (decide (97 ≤ a0) && decide (a0 ≤ 122))) || (a0 == 170)) || (a0 == 181)) || (a0 == 186)) || (decide (192 ≤ a0) && decide (a0 ≤ 214))) || (decide (216 ≤ a0) && decide (a0 ≤ 246))) || (decide (248 ≤ a0) && decide (a0 ≤ 383))) || (a0 == 700)) || (a0 == 902)) || (decide (904 ≤ a0) && decide (a0 ≤ 906))) || (a0 == 908)) || (decide (910 ≤ a0) && decide (a0 ≤ 929))) || (decide (931 ≤ a0) && decide (a0 ≤ 974))) || (a0 == 1025)) || (decide (1040 ≤ a0) && decide (a0 ≤ 1103))) || (a0 == 1105)) || (decide (1488 ≤ a0) && decide (a0 ≤ 1514))) || (decide (4352 ≤ a0) && decide (a0 ≤ 4370))) || (decide (4449 ≤ a0) && decide (a0 ≤ 4469))) || (decide (4520 ≤ a0) && decide (a0 ≤ 4546))) || (a0 == 8486)) || (decide (8490 ≤ a0) && decide (a0 ≤ 8491))) || (decide (8544 ≤ a0) && decide (a0 ≤ 8555))) || (decide (8560 ≤ a0) && decide (a0 ≤ 8571))) || (decide (12353 ≤ a0) && decide (a0 ≤ 12436))) || (decide (19968 ≤ a0) && decide (a0 ≤ 20223))) || (decide (44032 ≤ a0) && decide (a0 ≤ 55203))) || (decide (64256 ≤ a0) && decide (a0 ≤ 64261))) || (decide (65313 ≤ a0) && decide (a0 ≤ 65338))) || (decide (65345 ≤ a0) && decide (a0 ≤ 65370)))
set_option maxHeartbeats 8000000 in
set_option maxRecDepth 100000 in
theorem chars_letter.calls (a0 : Int) (r : Bool) (w : World) (h : chars_letter.f a0 = some r) :
    Calls Tryz.prog 202 #[.int .i32 a0] w fun e w' => e = .returned (.bool r) ∧ Drawn0 w w' := by
  obtain rfl := Option.some.inj h
  clear h
  go_enter Tryz.func202, Tryz.ntmps202
  refine wp_seq ?_
  refine wp_region_lit ?_
  refine wpList_step fun K0 hK0 => ?_
  refine hK0 _ _ ?_
  refine wpList_nil ?_
  show Code.wp _ _ _ _ _
  refine wp_seq ?_
  refine wp_region_lit ?_
  refine cl_first (N := 213) (j := 2) (r := a0) rfl rfl rfl (by decide) (by decide) ?_
  intro tm hc
  refine cl_range hc (i := 6) (j := 9) rfl rfl (by decide) (by decide) (by decide) ?_
  clear hc tm
  intro tm hc
  refine cl_one Tryz.underlying21 hc (i := 14) rfl (by decide) (by decide) (by decide) ?_
  clear hc tm
  intro tm hc
  refine cl_one Tryz.underlying21 hc (i := 18) rfl (by decide) (by decide) (by decide) ?_
  clear hc tm
  intro tm hc
  refine cl_one Tryz.underlying21 hc (i := 22) rfl (by decide) (by decide) (by decide) ?_
  clear hc tm
  intro tm hc
  refine cl_range hc (i := 26) (j := 29) rfl rfl (by decide) (by decide) (by decide) ?_
  clear hc tm
  intro tm hc
  refine cl_range hc (i := 34) (j := 37) rfl rfl (by decide) (by decide) (by decide) ?_
  clear hc tm
  intro tm hc
  refine cl_range hc (i := 42) (j := 45) rfl rfl (by decide) (by decide) (by decide) ?_
  clear hc tm
  intro tm hc
  refine cl_one Tryz.underlying21 hc (i := 50) rfl (by decide) (by decide) (by decide) ?_
  clear hc tm
  intro tm hc
  refine cl_one Tryz.underlying21 hc (i := 54) rfl (by decide) (by decide) (by decide) ?_
  clear hc tm
  intro tm hc
  refine cl_range hc (i := 58) (j := 61) rfl rfl (by decide) (by decide) (by decide) ?_
  clear hc tm
  intro tm hc
  refine cl_one Tryz.underlying21 hc (i := 66) rfl (by decide) (by decide) (by decide) ?_
  clear hc tm
  intro tm hc
  refine cl_range hc (i := 70) (j := 73) rfl rfl (by decide) (by decide) (by decide) ?_
  clear hc tm
  intro tm hc
  refine cl_range hc (i := 78) (j := 81) rfl rfl (by decide) (by decide) (by decide) ?_
  clear hc tm
  intro tm hc
  refine cl_one Tryz.underlying21 hc (i := 86) rfl (by decide) (by decide) (by decide) ?_
  clear hc tm
  intro tm hc
  refine cl_range hc (i := 90) (j := 93) rfl rfl (by decide) (by decide) (by decide) ?_
  clear hc tm
  intro tm hc
  refine cl_one Tryz.underlying21 hc (i := 98) rfl (by decide) (by decide) (by decide) ?_
  clear hc tm
  intro tm hc
  refine cl_range hc (i := 102) (j := 105) rfl rfl (by decide) (by decide) (by decide) ?_
  clear hc tm
  intro tm hc
  refine cl_range hc (i := 110) (j := 113) rfl rfl (by decide) (by decide) (by decide) ?_
  clear hc tm
  intro tm hc
  refine cl_range hc (i := 118) (j := 121) rfl rfl (by decide) (by decide) (by decide) ?_
  clear hc tm
  intro tm hc
  refine cl_range hc (i := 126) (j := 129) rfl rfl (by decide) (by decide) (by decide) ?_
  clear hc tm
  intro tm hc
  refine cl_one Tryz.underlying21 hc (i := 134) rfl (by decide) (by decide) (by decide) ?_
  clear hc tm
  intro tm hc
  refine cl_range hc (i := 138) (j := 141) rfl rfl (by decide) (by decide) (by decide) ?_
  clear hc tm
  intro tm hc
  refine cl_range hc (i := 146) (j := 149) rfl rfl (by decide) (by decide) (by decide) ?_
  clear hc tm
  intro tm hc
  refine cl_range hc (i := 154) (j := 157) rfl rfl (by decide) (by decide) (by decide) ?_
  clear hc tm
  intro tm hc
  refine cl_range hc (i := 162) (j := 165) rfl rfl (by decide) (by decide) (by decide) ?_
  clear hc tm
  intro tm hc
  refine cl_range hc (i := 170) (j := 173) rfl rfl (by decide) (by decide) (by decide) ?_
  clear hc tm
  intro tm hc
  refine cl_range hc (i := 178) (j := 181) rfl rfl (by decide) (by decide) (by decide) ?_
  clear hc tm
  intro tm hc
  refine cl_range hc (i := 186) (j := 189) rfl rfl (by decide) (by decide) (by decide) ?_
  clear hc tm
  intro tm hc
  refine cl_range hc (i := 194) (j := 197) rfl rfl (by decide) (by decide) (by decide) ?_
  clear hc tm
  intro tm hc
  refine cl_range hc (i := 202) (j := 205) rfl rfl (by decide) (by decide) (by decide) ?_
  clear hc tm
  intro tm hc
  refine st_assign ?_
  rw [hc.acc]
  refine wpList_nil ?_
  show Code.wp _ _ _ _ _
  refine wp_ret ?_
  refine bodyPost_ret (results_tmp rfl _ _ _) rfl ?_
  refine ⟨?_, Drawn0.refl _⟩
  show Ending.returned ((tm.setIfInBounds 2 _).getD 2 undef) = _
  rw [getD_set_same _ _ _ (by rw [hc.size]; decide)]

end Go.Proofs.YtdgnekknmpfepaaGreatDoor.P
