/- A text as it comes in. -/
import Derived.Test.YtboinbjiemmggaaDoorAbJ
import Derived.Test.YtboinbjiemmggaaDoorProg
import Derived.KernelRfl
namespace Go.Proofs.YtboinbjiemmggaaDoor
open Ab Go.RowKit
noncomputable def rdStr : Rd Tryd.prog 9 (List UInt8) := Rd.str Tryd.underlying9 (by kernel_rfl)
end Go.Proofs.YtboinbjiemmggaaDoor
