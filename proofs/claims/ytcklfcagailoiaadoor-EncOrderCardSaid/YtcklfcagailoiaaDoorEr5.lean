/- Tuples as they come in. -/
import Derived.Test.YtcklfcagailoiaaDoorTv
import Derived.Test.YtcklfcagailoiaaDoorEr
namespace Go.Proofs.YtcklfcagailoiaaDoor
open Ab Go.RowKit
set_option linter.unusedVariables false
noncomputable def rdKind : Rd Tryd.prog 63 Int := Rd.int (k := .u8) Tryd.underlying63 (by kernel_rfl)
noncomputable def rdValue : Rd Tryd.prog 65 V :=
  (Rd.struct Tryd.underlying65 (.cons rdKind rfl (.cons rdI64 rfl (.cons rdStr rfl .nil))) (by kernel_rfl)).map (fun x => ⟨x.1, x.2.1, x.2.2.1⟩) (fun v => [.int .u8 v.k, .int .i64 v.n, .str v.t]) V.In' (fun _ => rfl) (fun _ h => ⟨h.2.1.1, h.2.1.2⟩) fun _ => rfl
@[reducible] noncomputable def rdValues : Rd Tryd.prog 43 (List V) := Rd.slice Tryd.underlying43 (by kernel_rfl) rdValue (by decide) V.sv (fun _ => rfl) vnull
end Go.Proofs.YtcklfcagailoiaaDoor
