/- enc.Tuple: its contract. -/
import Derived.Test.YtcklfcagailoiaaDoorFx
import Derived.Test.YtcklfcagailoiaaDoorEc
namespace Go.Proofs.YtcklfcagailoiaaDoor
open Ab Go.RowKit
set_option maxRecDepth 100000
set_option linter.unusedVariables false
set_option linter.unusedSimpArgs false
set_option pp.maxSteps 3000
/-- A value's text. -/
def textB (v : V) : List UInt8 :=
  if v.k = 0 then [1]
  else if v.k = 1 then [2, if v.n = 0 then 0 else 1]
  else if v.k = 2 then 3 :: beB 8 (v.n + 9223372036854775808).toNat
  else 4 :: (repB 0 [0, 255] v.t ++ [0, 1])
theorem textB_pos (v : V) : 0 < (textB v).length := by unfold textB; split <;> (try split) <;> (try split) <;> simp
theorem textB_len {v : V} (h : okV v = true) : (textB v).length ≤ 300 := by
  unfold textB
  split
  · simp
  · split
    · simp
    · split
      · rw [List.length_cons, beB_len]; omega
      · rename_i h0 h1 h2
        have h64 : v.t.length ≤ 64 := by
          unfold okV at h
          rw [if_neg h0, if_neg h1, if_neg h2] at h
          split at h
          · simp only [Bool.and_eq_true, decide_eq_true_eq] at h; exact h.2
          · cases h
        have := repB_len 0 (nw := [0, 255]) (k := 2) (by decide) (by omega) v.t
        simp only [List.length_cons, List.length_append, List.length_nil]
        omega
theorem top_xor {n : Int} (h : -9223372036854775808 ≤ n) (h' : n ≤ 9223372036854775807) : bitsI .xor .u64 (IntKind.u64.wrap n) 9223372036854775808 = (((n + 9223372036854775808).toNat : Nat) : Int) := by
  show IntKind.u64.wrap ((BitVec.ofInt 64 (IntKind.u64.wrap n) ^^^ BitVec.ofInt 64 9223372036854775808).toNat : Int) = _
  have e1 : IntKind.u64.wrap n = n % 18446744073709551616 := by rw [IntKind.wrap_u64]
  have e2 : BitVec.ofInt 64 9223372036854775808 = BitVec.ofNat 64 (2 ^ 63) := by decide
  obtain ⟨x, hx, hx2⟩ : ∃ x : Nat, n % 18446744073709551616 = (x : Int) ∧ x < 18446744073709551616 := ⟨(n % 18446744073709551616).toNat, by omega, by omega⟩
  rw [e1, hx, e2, BitVec.ofInt_natCast, BitVec.toNat_xor, BitVec.toNat_ofNat, BitVec.toNat_ofNat]
  rw [Nat.mod_eq_of_lt (show x < 2 ^ 64 by omega), Nat.mod_eq_of_lt (show 2 ^ 63 < 2 ^ 64 by decide)]
  have e3 : x ^^^ 2 ^ 63 = if x < 9223372036854775808 then x + 9223372036854775808 else x - 9223372036854775808 := by
    split
    · rename_i hlt
      have := Nat.shiftLeft_add_eq_or_of_lt (b := x) (i := 63) hlt 1
      rw [Nat.shiftLeft_eq, Nat.one_mul] at this
      have e : x ^^^ 2 ^ 63 = 2 ^ 63 ||| x := by
        apply Nat.eq_of_testBit_eq
        intro i
        rw [Nat.testBit_xor, Nat.testBit_or, Nat.testBit_two_pow]
        by_cases hi : 63 = i
        · subst hi; rw [Nat.testBit_lt_two_pow hlt]; simp
        · simp [hi]
      rw [e, ← this]
      omega
    · rename_i hge
      obtain ⟨y, rfl⟩ : ∃ y, x = 9223372036854775808 + y := ⟨x - 9223372036854775808, by omega⟩
      have hy : y < 2 ^ 63 := by omega
      have := Nat.shiftLeft_add_eq_or_of_lt (b := y) (i := 63) hy 1
      rw [Nat.shiftLeft_eq, Nat.one_mul] at this
      have e0 : 9223372036854775808 + y = 2 ^ 63 ||| y := by rw [← this]
      rw [e0]
      have e : (2 ^ 63 ||| y) ^^^ 2 ^ 63 = y := by
        apply Nat.eq_of_testBit_eq
        intro i
        rw [Nat.testBit_xor, Nat.testBit_or, Nat.testBit_two_pow]
        by_cases hi : 63 = i
        · subst hi; rw [Nat.testBit_lt_two_pow hy]; simp
        · simp [hi]
      rw [e, ← e0]
      omega
  rw [e3]
  split
  · rw [IntKind.wrap_u64]; omega
  · rw [IntKind.wrap_u64]; omega
theorem wb4 {v1 : V} {b0 c : UInt8} {x : Int} {g : Nat} {o : List UInt8} {R : AEnd → Heap → Prop} (hx : SV.int .u8 x = byS c) (hlen : o.length + 1 ≤ 140737488355328) (hk : R (.ret .nili) ⟨4, [(3, bufO 5 (g + 1) (o ++ [c])), (2, (.vec 0 1 [byS b0] ⟨false, some 5⟩)), (1, (.vec 0 3 [V.sv v1] ⟨false, some 65⟩)), (0, bldO 85 0 3 (g + 1) (o ++ [c]).length)]⟩) :
    ACall Tryd.prog 60 [.ref 0 0 0 0, .int .u8 x] ⟨4, [(3, bufO 5 g (o)), (2, (.vec 0 1 [byS b0] ⟨false, some 5⟩)), (1, (.vec 0 3 [V.sv v1] ⟨false, some 65⟩)), (0, bldO 85 0 3 g (o).length)]⟩ R :=
  wb_app (bi := 0) (j := 3) hx rfl rfl (by omega) (by omega) (by omega) (ltH_cons (by omega) objLt_by (ltH_cons (by omega) (objLt_all rfl) (ltH_cons (by omega) (objLt_all rfl) (ltH_cons (by omega) (objLt_all rfl) ltH_nil)))) hlen hk
theorem ws4 {v1 : V} {b0 : UInt8} {s : List UInt8} {g : Nat} {o : List UInt8} {R : AEnd → Heap → Prop} (hlen : o.length + s.length ≤ 140737488355328) (hk : ∀ g', R (.ret (.tup [.int .i64 s.length, .nili])) ⟨4, [(3, bufO 5 g' (o ++ s)), (2, (.vec 0 1 [byS b0] ⟨false, some 5⟩)), (1, (.vec 0 3 [V.sv v1] ⟨false, some 65⟩)), (0, bldO 85 0 3 g' (o ++ s).length)]⟩) :
    ACall Tryd.prog 62 [.ref 0 0 0 0, .str s] ⟨4, [(3, bufO 5 g (o)), (2, (.vec 0 1 [byS b0] ⟨false, some 5⟩)), (1, (.vec 0 3 [V.sv v1] ⟨false, some 65⟩)), (0, bldO 85 0 3 g (o).length)]⟩ R :=
  ws_app (bi := 0) (j := 3) rfl rfl (by omega) (by omega) (by omega) (ltH_cons (by omega) objLt_by (ltH_cons (by omega) (objLt_all rfl) (ltH_cons (by omega) (objLt_all rfl) (ltH_cons (by omega) (objLt_all rfl) ltH_nil)))) hlen hk
theorem fx4 {v1 : V} {b0 : UInt8} {x : Nat} {X : Int} {g : Nat} {o : List UInt8} {R : AEnd → Heap → Prop} (hX : X = (x : Int)) (hlen : o.length + 8 ≤ 140737488355328) (hk : ∀ g', R (.ret (.tup [])) ⟨4, [(3, bufO 5 g' (o ++ beB 8 x)), (2, (.vec 0 1 [byS b0] ⟨false, some 5⟩)), (1, (.vec 0 3 [V.sv v1] ⟨false, some 65⟩)), (0, bldO 85 0 3 g' (o ++ beB 8 x).length)]⟩) :
    ACall Tryd.prog 61 [.ref 0 0 0 0, .int .u64 X, .int .i64 8] ⟨4, [(3, bufO 5 g (o)), (2, (.vec 0 1 [byS b0] ⟨false, some 5⟩)), (1, (.vec 0 3 [V.sv v1] ⟨false, some 65⟩)), (0, bldO 85 0 3 g (o).length)]⟩ R :=
  fixed_app (bi := 0) (j := 3) hX rfl rfl (by omega) (by omega) (by omega) (ltH_cons (by omega) objLt_by (ltH_cons (by omega) (objLt_all rfl) (ltH_cons (by omega) (objLt_all rfl) (ltH_cons (by omega) (objLt_all rfl) ltH_nil)))) hlen hk
theorem wb5 {v1 v2 : V} {b0 c : UInt8} {x : Int} {g : Nat} {o : List UInt8} {R : AEnd → Heap → Prop} (hx : SV.int .u8 x = byS c) (hlen : o.length + 1 ≤ 140737488355328) (hk : R (.ret .nili) ⟨5, [(4, (.vec 0 3 [V.sv v2] ⟨false, some 65⟩)), (3, bufO 5 (g + 1) (o ++ [c])), (2, (.vec 0 1 [byS b0] ⟨false, some 5⟩)), (1, (.vec 0 3 [V.sv v1] ⟨false, some 65⟩)), (0, bldO 85 0 3 (g + 1) (o ++ [c]).length)]⟩) :
    ACall Tryd.prog 60 [.ref 0 0 0 0, .int .u8 x] ⟨5, [(4, (.vec 0 3 [V.sv v2] ⟨false, some 65⟩)), (3, bufO 5 g (o)), (2, (.vec 0 1 [byS b0] ⟨false, some 5⟩)), (1, (.vec 0 3 [V.sv v1] ⟨false, some 65⟩)), (0, bldO 85 0 3 g (o).length)]⟩ R :=
  wb_app (bi := 0) (j := 3) hx rfl rfl (by omega) (by omega) (by omega) (ltH_cons (by omega) (objLt_all rfl) (ltH_cons (by omega) objLt_by (ltH_cons (by omega) (objLt_all rfl) (ltH_cons (by omega) (objLt_all rfl) (ltH_cons (by omega) (objLt_all rfl) ltH_nil))))) hlen hk
theorem ws5 {v1 v2 : V} {b0 : UInt8} {s : List UInt8} {g : Nat} {o : List UInt8} {R : AEnd → Heap → Prop} (hlen : o.length + s.length ≤ 140737488355328) (hk : ∀ g', R (.ret (.tup [.int .i64 s.length, .nili])) ⟨5, [(4, (.vec 0 3 [V.sv v2] ⟨false, some 65⟩)), (3, bufO 5 g' (o ++ s)), (2, (.vec 0 1 [byS b0] ⟨false, some 5⟩)), (1, (.vec 0 3 [V.sv v1] ⟨false, some 65⟩)), (0, bldO 85 0 3 g' (o ++ s).length)]⟩) :
    ACall Tryd.prog 62 [.ref 0 0 0 0, .str s] ⟨5, [(4, (.vec 0 3 [V.sv v2] ⟨false, some 65⟩)), (3, bufO 5 g (o)), (2, (.vec 0 1 [byS b0] ⟨false, some 5⟩)), (1, (.vec 0 3 [V.sv v1] ⟨false, some 65⟩)), (0, bldO 85 0 3 g (o).length)]⟩ R :=
  ws_app (bi := 0) (j := 3) rfl rfl (by omega) (by omega) (by omega) (ltH_cons (by omega) (objLt_all rfl) (ltH_cons (by omega) objLt_by (ltH_cons (by omega) (objLt_all rfl) (ltH_cons (by omega) (objLt_all rfl) (ltH_cons (by omega) (objLt_all rfl) ltH_nil))))) hlen hk
theorem fx5 {v1 v2 : V} {b0 : UInt8} {x : Nat} {X : Int} {g : Nat} {o : List UInt8} {R : AEnd → Heap → Prop} (hX : X = (x : Int)) (hlen : o.length + 8 ≤ 140737488355328) (hk : ∀ g', R (.ret (.tup [])) ⟨5, [(4, (.vec 0 3 [V.sv v2] ⟨false, some 65⟩)), (3, bufO 5 g' (o ++ beB 8 x)), (2, (.vec 0 1 [byS b0] ⟨false, some 5⟩)), (1, (.vec 0 3 [V.sv v1] ⟨false, some 65⟩)), (0, bldO 85 0 3 g' (o ++ beB 8 x).length)]⟩) :
    ACall Tryd.prog 61 [.ref 0 0 0 0, .int .u64 X, .int .i64 8] ⟨5, [(4, (.vec 0 3 [V.sv v2] ⟨false, some 65⟩)), (3, bufO 5 g (o)), (2, (.vec 0 1 [byS b0] ⟨false, some 5⟩)), (1, (.vec 0 3 [V.sv v1] ⟨false, some 65⟩)), (0, bldO 85 0 3 g (o).length)]⟩ R :=
  fixed_app (bi := 0) (j := 3) hX rfl rfl (by omega) (by omega) (by omega) (ltH_cons (by omega) (objLt_all rfl) (ltH_cons (by omega) objLt_by (ltH_cons (by omega) (objLt_all rfl) (ltH_cons (by omega) (objLt_all rfl) (ltH_cons (by omega) (objLt_all rfl) ltH_nil))))) hlen hk
theorem tabsB : TabsOk Tryd.prog [(60, t60), (89, t89)] := .cons tab60 (.cons tab89 .nil)
theorem wb0 {o1 : AObj} {x : Int} {b0 : UInt8} {R : AEnd → Heap → Prop} (hx : SV.int .u8 x = byS b0)
    (hk : R (.ret .nili) ⟨4, [(3, .vec 0 1 [byS b0] ⟨true, some 5⟩), (2, .vec 0 1 [byS b0] ⟨false, some 5⟩), (1, o1), (0, bldO 85 0 3 0 1)]⟩) :
    ACall Tryd.prog 60 [.ref 0 0 0 0, .int .u8 x] ⟨2, [(1, o1), (0, .vec 0 2 [.agg [.nilp, .nils]] ⟨false, some 85⟩)]⟩ R := by
  rw [hx]
  exact (lvl_sound mixed tabsB 10).1.call _ _ _ _ (Eq.mpr (show (lvl Tryd.prog [(60, t60), (89, t89)] 10).1.call 60 [.ref 0 0 0 0, byS b0] ⟨2, [(1, o1), (0, .vec 0 2 [.agg [.nilp, .nils]] ⟨false, some 85⟩)]⟩ R = R (.ret .nili) ⟨4, [(3, .vec 0 1 [byS b0] ⟨true, some 5⟩), (2, .vec 0 1 [byS b0] ⟨false, some 5⟩), (1, o1), (0, bldO 85 0 3 0 1)]⟩ by kernel_rfl) hk)
def tupE (l : List V) : Int := if 16 < l.length then 3 else if l.all okV then 0 else 2
def tupT (l : List V) : List UInt8 := if 16 < l.length then [] else if l.all okV then l.flatMap textB else []
def V.In' (v : V) : Prop := -9223372036854775808 ≤ v.n ∧ v.n ≤ 9223372036854775807
end Go.Proofs.YtcklfcagailoiaaDoor
