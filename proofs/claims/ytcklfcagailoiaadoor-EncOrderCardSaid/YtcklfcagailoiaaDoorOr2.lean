/- The law EncOrder as it is called. -/
import Derived.Test.YtcklfcagailoiaaDoorOr
import Derived.Test.YtcklfcagailoiaaDoorEr5
namespace Go.Proofs.YtcklfcagailoiaaDoor
open Ab Go.RowKit
set_option linter.unusedVariables false
theorem bytesV : Tryd.prog.bytesOf 65 = 32 := by kernel_rfl
theorem encOrder_card {a b : List V} (ia : ∀ v ∈ a, v.In') (ib : ∀ v ∈ b, v.In') (ha : a.length * Tryd.prog.bytesOf 65 ≤ 140737488351232) (hb : b.length * Tryd.prog.bytesOf 65 ≤ 140737488351232) :
    PCall Tryd.prog 9 [lstV a, lstV b] (.bool true) := by
  rw [bytesV] at ha hb
  exact encOrder_any ia ib (by omega) (by omega)
end Go.Proofs.YtcklfcagailoiaaDoor
