import Derived.Test.YtdgnekknmpfepaaGreatDoorQBytes
import Derived.Test.YtdgnekknmpfepaaGreatDoorP1
import Derived.Test.YtdgnekknmpfepaaGreatDoorP8
/- syntax.Integer; awake. -/
namespace Go.Proofs.YtdgnekknmpfepaaGreatDoor.Pure
open Go.RowKit Go.Proofs.YtdgnekknmpfepaaGreatDoor.P Go.Proofs.YtdgnekknmpfepaaGreatDoorW.PrintWords Go.Proofs.YtdgnekknmpfepaaGreatDoorW.PrintLast
set_option linter.unusedVariables false
set_option linter.unusedSimpArgs false
set_option maxRecDepth 100000
theorem awake19 : Ev (fun k => (toponymlaw19_awake.f k).bind fun t => some t) true := Ev.bind (Ev.of toponymlaw19_awake.mono (k := 100) (by decide +kernel)) (Ev.now _)
theorem int_forms (S : ByteArray) : ∃ v e, syntax_Integer.f S = some (v, e) ∧ ((e = 0 ∧ (⟨(Lib.itoa v).toArray⟩ : ByteArray).toList = S.toList) ∨ (v = 0 ∧ e = 180)) := by
 unfold syntax_Integer.f
 split
 ·exact ⟨0, 180, rfl, .inr ⟨rfl, rfl⟩⟩
 ·split
  ·split
   ·exact ⟨0, 180, rfl, .inr ⟨rfl, rfl⟩⟩
   ·split
    ·exact ⟨0, 180, rfl, .inr ⟨rfl, rfl⟩⟩
    ·split
     ·rename_i h
      exact ⟨_, 0, rfl, .inl ⟨rfl, h⟩⟩
     ·exact ⟨0, 180, rfl, .inr ⟨rfl, rfl⟩⟩
  ·exact ⟨0, 180, rfl, .inr ⟨rfl, rfl⟩⟩
end Go.Proofs.YtdgnekknmpfepaaGreatDoor.Pure
