/- Numbers that wrap, texts and bytes: small facts. No program in sight. -/
import Derived.Test.YtboinbjiemmggaaDoorAbK
namespace Go.Proofs.YtboinbjiemmggaaDoor
open Ab Go.RowKit
set_option linter.unusedVariables false
set_option linter.unusedSimpArgs false
theorem w64 {x : Int} (h : -9223372036854775808 ≤ x) (h' : x ≤ 9223372036854775807) : IntKind.i64.wrap x = x := by rw [IntKind.wrap_i64]; omega
theorem wu64 {x : Int} (h : 0 ≤ x) (h' : x < 18446744073709551616) : IntKind.u64.wrap x = x := by rw [IntKind.wrap_u64]; omega
theorem wu8 {x : Int} (h : 0 ≤ x) (h' : x < 256) : IntKind.u8.wrap x = x := by rw [IntKind.wrap_u8]; omega
theorem w64sub {n : Nat} (h : 0 < n) (h' : n ≤ 9223372036854775807) : IntKind.i64.wrap ((n : Int) - 1) = ((n - 1 : Nat) : Int) := by rw [w64 (by omega) (by omega)]; omega
theorem w64add {n : Nat} (h' : n < 9223372036854775807) : IntKind.i64.wrap ((n : Int) + 1) = ((n + 1 : Nat) : Int) := by rw [w64 (by omega) (by omega)]; omega
theorem u8_back (b : UInt8) : UInt8.ofNat b.toNat = b := by simp
theorem u8_succ {b : UInt8} (h : b < 255) : UInt8.ofNat (IntKind.u8.wrap ((b.toNat : Int) + 1)).toNat = b + 1 := by
  rw [UInt8.lt_iff_toNat_lt] at h
  have : (255 : UInt8).toNat = 255 := rfl
  rw [wu8 (by omega) (by omega)]
  apply UInt8.toNat_inj.1
  rw [UInt8.toNat_add]
  have : (1 : UInt8).toNat = 1 := rfl
  simp
theorem u8_lt_iff {b c : UInt8} : b < c ↔ b.toNat < c.toNat := UInt8.lt_iff_toNat_lt
theorem take_succ_getD {s : List UInt8} {n : Nat} (h : n < s.length) : s.take (n + 1) = s.take n ++ [s.getD n 0] := by
  rw [List.take_add_one, List.getElem?_eq_getElem h, List.getD_eq_getElem?_getD, List.getElem?_eq_getElem h]; rfl
end Go.Proofs.YtboinbjiemmggaaDoor
