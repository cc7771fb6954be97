/- Equations of numbers as the walk spells them. -/
import Derived.Test.YtajacklnhfjmpaaBase
namespace Go.Proofs.Ytajacklnhfjmpaa.Base
open Go.RowKit
theorem w64_u8 (x : Int) : wrap64 (IntKind.u8.wrap x) = x % 256 := by
  have h : IntKind.u8.wrap x = x % 256 := by simp [IntKind.wrap, IntKind.signed, IntKind.bits]
  rw [h]
  unfold wrap64
  omega
end Go.Proofs.Ytajacklnhfjmpaa.Base
