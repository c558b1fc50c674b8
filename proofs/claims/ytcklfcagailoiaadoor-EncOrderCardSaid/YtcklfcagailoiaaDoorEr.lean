/- Values as they come in. -/
import Derived.Test.YtcklfcagailoiaaDoorAbJ
import Derived.Test.YtcklfcagailoiaaDoorProg
import Derived.KernelRfl
namespace Go.Proofs.YtcklfcagailoiaaDoor
open Ab Go.RowKit
set_option linter.unusedVariables false
theorem i64_in {n : Int} (h : IntKind.i64.min ≤ n ∧ n ≤ IntKind.i64.max) : -9223372036854775808 ≤ n ∧ n ≤ 9223372036854775807 := by
  have e1 : IntKind.i64.min = -9223372036854775808 := by decide
  have e2 : IntKind.i64.max = 9223372036854775807 := by decide
  omega
theorem i32_in {n : Int} (h : IntKind.i32.min ≤ n ∧ n ≤ IntKind.i32.max) : -2147483648 ≤ n ∧ n ≤ 2147483647 := by
  have e1 : IntKind.i32.min = -2147483648 := by decide
  have e2 : IntKind.i32.max = 2147483647 := by decide
  omega
theorem u64_in {n : Int} (h : IntKind.u64.min ≤ n ∧ n ≤ IntKind.u64.max) : 0 ≤ n ∧ n ≤ 18446744073709551615 := by
  have e1 : IntKind.u64.min = 0 := by decide
  have e2 : IntKind.u64.max = 18446744073709551615 := by decide
  omega
theorem u8_in {n : Int} (h : IntKind.u8.min ≤ n ∧ n ≤ IntKind.u8.max) : 0 ≤ n ∧ n ≤ 255 := by
  have e1 : IntKind.u8.min = 0 := by decide
  have e2 : IntKind.u8.max = 255 := by decide
  omega
noncomputable def rdI64 : Rd Tryd.prog 2 Int := (Rd.int (k := .i64) Tryd.underlying2 (by kernel_rfl)).map id (fun n => [.int .i64 n]) (fun n => -9223372036854775808 ≤ n ∧ n ≤ 9223372036854775807) (fun _ => rfl) (fun _ h => i64_in h) fun _ => rfl
noncomputable def rdInt : Rd Tryd.prog 3 Int := (Rd.int (k := .i64) Tryd.underlying3 (by kernel_rfl)).map id (fun n => [.int .i64 n]) (fun n => -9223372036854775808 ≤ n ∧ n ≤ 9223372036854775807) (fun _ => rfl) (fun _ h => i64_in h) fun _ => rfl
noncomputable def rdI32 : Rd Tryd.prog 21 Int := (Rd.int (k := .i32) Tryd.underlying21 (by kernel_rfl)).map id (fun n => [.int .i32 n]) (fun n => -2147483648 ≤ n ∧ n ≤ 2147483647) (fun _ => rfl) (fun _ h => i32_in h) fun _ => rfl
noncomputable def rdU64 : Rd Tryd.prog 26 Int := (Rd.int (k := .u64) Tryd.underlying26 (by kernel_rfl)).map id (fun n => [.int .u64 n]) (fun n => 0 ≤ n ∧ n ≤ 18446744073709551615) (fun _ => rfl) (fun _ h => u64_in h) fun _ => rfl
noncomputable def rdU8 : Rd Tryd.prog 5 Int := (Rd.int (k := .u8) Tryd.underlying5 (by kernel_rfl)).map id (fun n => [.int .u8 n]) (fun n => 0 ≤ n ∧ n ≤ 255) (fun _ => rfl) (fun _ h => u8_in h) fun _ => rfl
noncomputable def rdStr : Rd Tryd.prog 9 (List UInt8) := Rd.str Tryd.underlying9 (by kernel_rfl)
noncomputable def rdStamp : Rd Tryd.prog 51 (Int × Int × Int) :=
  (Rd.struct Tryd.underlying51 (.cons rdI64 rfl (.cons rdI32 rfl (.cons rdI32 rfl .nil))) (by kernel_rfl)).map (fun x => (x.1, x.2.1, x.2.2.1)) (fun x => [.int .i64 x.1, .int .i32 x.2.1, .int .i32 x.2.2]) (fun x => (-9223372036854775808 ≤ x.1 ∧ x.1 ≤ 9223372036854775807) ∧ (-2147483648 ≤ x.2.1 ∧ x.2.1 ≤ 2147483647) ∧ (-2147483648 ≤ x.2.2 ∧ x.2.2 ≤ 2147483647)) (fun _ => rfl) (fun _ h => ⟨h.1, h.2.1, h.2.2.1⟩) fun _ => rfl
noncomputable def rdSpan : Rd Tryd.prog 35 (List UInt8 × List UInt8) :=
  (Rd.struct Tryd.underlying35 (.cons rdStr rfl (.cons rdStr rfl .nil)) (by kernel_rfl)).map (fun x => (x.1, x.2.1)) (fun x => [.str x.1, .str x.2]) (fun x => x.1.length ≤ 9223372036854775807 ∧ x.2.length ≤ 9223372036854775807) (fun _ => rfl) (fun _ h => ⟨h.1, h.2.1⟩) fun _ => rfl
end Go.Proofs.YtcklfcagailoiaaDoor
