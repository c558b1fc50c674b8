/- Values as they come in. -/
import Derived.Test.YtcklfcagailoiaaAbJ
import Derived.Test.YtcklfcagailoiaaVa5
namespace Go.Proofs.Ytcklfcagailoiaa
open Ab Go.RowKit


theorem i64_in {n : Int} (h : IntKind.i64.min ≤ n ∧ n ≤ IntKind.i64.max) : -9223372036854775808 ≤ n ∧ n ≤ 9223372036854775807 := by
  have e1 : IntKind.i64.min = -9223372036854775808 := by decide
  have e2 : IntKind.i64.max = 9223372036854775807 := by decide
  omega
noncomputable def rdI64 : Rd Try.prog 2 Int := (Rd.int (k := .i64) Try.underlying2 (by kernel_rfl)).map id (fun n => [.int .i64 n]) (fun n => -9223372036854775808 ≤ n ∧ n ≤ 9223372036854775807) (fun _ => rfl) (fun _ h => i64_in h) fun _ => rfl
noncomputable def rdKind : Rd Try.prog 23 Int := Rd.int (k := .u8) Try.underlying23 (by kernel_rfl)
noncomputable def rdOp : Rd Try.prog 30 Int := Rd.int (k := .u8) Try.underlying30 (by kernel_rfl)
noncomputable def rdStr : Rd Try.prog 9 (List UInt8) := Rd.str Try.underlying9 (by kernel_rfl)
noncomputable def rdValue : Rd Try.prog 25 V :=
  (Rd.struct Try.underlying25 (.cons rdKind rfl (.cons rdI64 rfl (.cons rdStr rfl .nil))) (by kernel_rfl)).map (fun x => ⟨x.1, x.2.1, x.2.2.1⟩) (fun v => [.int .u8 v.k, .int .i64 v.n, .str v.t]) V.In (fun _ => rfl) (fun _ h => ⟨h.2.1.1, h.2.1.2⟩) fun _ => rfl
noncomputable def rdValues : Rd Try.prog 36 (List V) := Rd.slice Try.underlying36 (by kernel_rfl) rdValue (by decide) V.sv (fun _ => rfl) vnull
end Go.Proofs.Ytcklfcagailoiaa
