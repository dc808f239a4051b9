import Derived.Test.YtoadfanppajhhaaDoorM1
import Derived.Laws.Cover2
import Derived.Laws.Cover3
import Derived.Laws.FloatArith
import Derived.Laws.ComplexArith
import Derived.Lib.ItoaLen
import Derived.Shelf.Strconv.ErrVar
import Derived.Lib.Builder
import Derived.Laws.Externs
/- Words for floats: what a conversion to a whole number tells, and a product. -/
namespace Go.Proofs.YtoadfanppajhhaaDoor.P
def fTi (x : Nat) : Int := (Go.floatToIntVal .f64 x .i64).getD 0
def fMul (a b c d : Nat) : Nat × Nat := (Go.cMulBits a b c d).getD (0, 0)
theorem run_store_float {P : Program} {w : World} {a : Addr} {m : Mode} (k : FloatKind) (n : Nat) : (store a (.float k n) m).run P w = stored P w a (.float k n) m := run_store P w a _ m rfl
theorem run_store_complex {P : Program} {w : World} {a : Addr} {m : Mode} (k : FloatKind) (x y : Nat) : (store a (.complex k x y) m).run P w = stored P w a (.complex k x y) m := run_store P w a _ m rfl
end Go.Proofs.YtoadfanppajhhaaDoor.P
