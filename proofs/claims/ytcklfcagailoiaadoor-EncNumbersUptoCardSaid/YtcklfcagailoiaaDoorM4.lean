/- Parts of the proof of PNumbers, one behind the other. -/
import Derived.Test.YtcklfcagailoiaaDoorM3
namespace Go.Proofs.YtcklfcagailoiaaDoor
open Ab Go.RowKit
set_option maxRecDepth 100000
set_option linter.unusedVariables false
set_option linter.unusedSimpArgs false
set_option pp.maxSteps 3000
/-- A value's text. -/
def textB (v : V) : List UInt8 :=
  if v.k = 0 then [1]
  else if v.k = 1 then [2, if v.n = 0 then 0 else 1]
  else if v.k = 2 then 3 :: beB 8 (v.n + 9223372036854775808).toNat
  else 4 :: (repB 0 [0, 255] v.t ++ [0, 1])
theorem textB_pos (v : V) : 0 < (textB v).length := by unfold textB; split <;> (try split) <;> (try split) <;> simp
theorem textB_len {v : V} (h : okV v = true) : (textB v).length ≤ 300 := by
  unfold textB
  split
  · simp
  · split
    · simp
    · split
      · rw [List.length_cons, beB_len]; omega
      · rename_i h0 h1 h2
        have h64 : v.t.length ≤ 64 := by
          unfold okV at h
          rw [if_neg h0, if_neg h1, if_neg h2] at h
          split at h
          · simp only [Bool.and_eq_true, decide_eq_true_eq] at h; exact h.2
          · cases h
        have := repB_len 0 (nw := [0, 255]) (k := 2) (by decide) (by omega) v.t
        simp only [List.length_cons, List.length_append, List.length_nil]
        omega
theorem top_xor {n : Int} (h : -9223372036854775808 ≤ n) (h' : n ≤ 9223372036854775807) : bitsI .xor .u64 (IntKind.u64.wrap n) 9223372036854775808 = (((n + 9223372036854775808).toNat : Nat) : Int) := by
  show IntKind.u64.wrap ((BitVec.ofInt 64 (IntKind.u64.wrap n) ^^^ BitVec.ofInt 64 9223372036854775808).toNat : Int) = _
  have e1 : IntKind.u64.wrap n = n % 18446744073709551616 := by rw [IntKind.wrap_u64]
  have e2 : BitVec.ofInt 64 9223372036854775808 = BitVec.ofNat 64 (2 ^ 63) := by decide
  obtain ⟨x, hx, hx2⟩ : ∃ x : Nat, n % 18446744073709551616 = (x : Int) ∧ x < 18446744073709551616 := ⟨(n % 18446744073709551616).toNat, by omega, by omega⟩
  rw [e1, hx, e2, BitVec.ofInt_natCast, BitVec.toNat_xor, BitVec.toNat_ofNat, BitVec.toNat_ofNat]
  rw [Nat.mod_eq_of_lt (show x < 2 ^ 64 by omega), Nat.mod_eq_of_lt (show 2 ^ 63 < 2 ^ 64 by decide)]
  have e3 : x ^^^ 2 ^ 63 = if x < 9223372036854775808 then x + 9223372036854775808 else x - 9223372036854775808 := by
    split
    · rename_i hlt
      have := Nat.shiftLeft_add_eq_or_of_lt (b := x) (i := 63) hlt 1
      rw [Nat.shiftLeft_eq, Nat.one_mul] at this
      have e : x ^^^ 2 ^ 63 = 2 ^ 63 ||| x := by
        apply Nat.eq_of_testBit_eq
        intro i
        rw [Nat.testBit_xor, Nat.testBit_or, Nat.testBit_two_pow]
        by_cases hi : 63 = i
        · subst hi; rw [Nat.testBit_lt_two_pow hlt]; simp
        · simp [hi]
      rw [e, ← this]
      omega
    · rename_i hge
      obtain ⟨y, rfl⟩ : ∃ y, x = 9223372036854775808 + y := ⟨x - 9223372036854775808, by omega⟩
      have hy : y < 2 ^ 63 := by omega
      have := Nat.shiftLeft_add_eq_or_of_lt (b := y) (i := 63) hy 1
      rw [Nat.shiftLeft_eq, Nat.one_mul] at this
      have e0 : 9223372036854775808 + y = 2 ^ 63 ||| y := by rw [← this]
      rw [e0]
      have e : (2 ^ 63 ||| y) ^^^ 2 ^ 63 = y := by
        apply Nat.eq_of_testBit_eq
        intro i
        rw [Nat.testBit_xor, Nat.testBit_or, Nat.testBit_two_pow]
        by_cases hi : 63 = i
        · subst hi; rw [Nat.testBit_lt_two_pow hy]; simp
        · simp [hi]
      rw [e, ← e0]
      omega
  rw [e3]
  split
  · rw [IntKind.wrap_u64]; omega
  · rw [IntKind.wrap_u64]; omega
theorem wb4 {v1 : V} {b0 c : UInt8} {x : Int} {g : Nat} {o : List UInt8} {R : AEnd → Heap → Prop} (hx : SV.int .u8 x = byS c) (hlen : o.length + 1 ≤ 140737488355328) (hk : R (.ret .nili) ⟨4, [(3, bufO 5 (g + 1) (o ++ [c])), (2, (.vec 0 1 [byS b0] ⟨false, some 5⟩)), (1, (.vec 0 3 [V.sv v1] ⟨false, some 65⟩)), (0, bldO 85 0 3 (g + 1) (o ++ [c]).length)]⟩) :
    ACall Tryd.prog 60 [.ref 0 0 0 0, .int .u8 x] ⟨4, [(3, bufO 5 g (o)), (2, (.vec 0 1 [byS b0] ⟨false, some 5⟩)), (1, (.vec 0 3 [V.sv v1] ⟨false, some 65⟩)), (0, bldO 85 0 3 g (o).length)]⟩ R :=
  wb_app (bi := 0) (j := 3) hx rfl rfl (by omega) (by omega) (by omega) (ltH_cons (by omega) objLt_by (ltH_cons (by omega) (objLt_all rfl) (ltH_cons (by omega) (objLt_all rfl) (ltH_cons (by omega) (objLt_all rfl) ltH_nil)))) hlen hk
theorem ws4 {v1 : V} {b0 : UInt8} {s : List UInt8} {g : Nat} {o : List UInt8} {R : AEnd → Heap → Prop} (hlen : o.length + s.length ≤ 140737488355328) (hk : ∀ g', R (.ret (.tup [.int .i64 s.length, .nili])) ⟨4, [(3, bufO 5 g' (o ++ s)), (2, (.vec 0 1 [byS b0] ⟨false, some 5⟩)), (1, (.vec 0 3 [V.sv v1] ⟨false, some 65⟩)), (0, bldO 85 0 3 g' (o ++ s).length)]⟩) :
    ACall Tryd.prog 62 [.ref 0 0 0 0, .str s] ⟨4, [(3, bufO 5 g (o)), (2, (.vec 0 1 [byS b0] ⟨false, some 5⟩)), (1, (.vec 0 3 [V.sv v1] ⟨false, some 65⟩)), (0, bldO 85 0 3 g (o).length)]⟩ R :=
  ws_app (bi := 0) (j := 3) rfl rfl (by omega) (by omega) (by omega) (ltH_cons (by omega) objLt_by (ltH_cons (by omega) (objLt_all rfl) (ltH_cons (by omega) (objLt_all rfl) (ltH_cons (by omega) (objLt_all rfl) ltH_nil)))) hlen hk
theorem fx4 {v1 : V} {b0 : UInt8} {x : Nat} {X : Int} {g : Nat} {o : List UInt8} {R : AEnd → Heap → Prop} (hX : X = (x : Int)) (hlen : o.length + 8 ≤ 140737488355328) (hk : ∀ g', R (.ret (.tup [])) ⟨4, [(3, bufO 5 g' (o ++ beB 8 x)), (2, (.vec 0 1 [byS b0] ⟨false, some 5⟩)), (1, (.vec 0 3 [V.sv v1] ⟨false, some 65⟩)), (0, bldO 85 0 3 g' (o ++ beB 8 x).length)]⟩) :
    ACall Tryd.prog 61 [.ref 0 0 0 0, .int .u64 X, .int .i64 8] ⟨4, [(3, bufO 5 g (o)), (2, (.vec 0 1 [byS b0] ⟨false, some 5⟩)), (1, (.vec 0 3 [V.sv v1] ⟨false, some 65⟩)), (0, bldO 85 0 3 g (o).length)]⟩ R :=
  fixed_app (bi := 0) (j := 3) hX rfl rfl (by omega) (by omega) (by omega) (ltH_cons (by omega) objLt_by (ltH_cons (by omega) (objLt_all rfl) (ltH_cons (by omega) (objLt_all rfl) (ltH_cons (by omega) (objLt_all rfl) ltH_nil)))) hlen hk
theorem wb5 {v1 v2 : V} {b0 c : UInt8} {x : Int} {g : Nat} {o : List UInt8} {R : AEnd → Heap → Prop} (hx : SV.int .u8 x = byS c) (hlen : o.length + 1 ≤ 140737488355328) (hk : R (.ret .nili) ⟨5, [(4, (.vec 0 3 [V.sv v2] ⟨false, some 65⟩)), (3, bufO 5 (g + 1) (o ++ [c])), (2, (.vec 0 1 [byS b0] ⟨false, some 5⟩)), (1, (.vec 0 3 [V.sv v1] ⟨false, some 65⟩)), (0, bldO 85 0 3 (g + 1) (o ++ [c]).length)]⟩) :
    ACall Tryd.prog 60 [.ref 0 0 0 0, .int .u8 x] ⟨5, [(4, (.vec 0 3 [V.sv v2] ⟨false, some 65⟩)), (3, bufO 5 g (o)), (2, (.vec 0 1 [byS b0] ⟨false, some 5⟩)), (1, (.vec 0 3 [V.sv v1] ⟨false, some 65⟩)), (0, bldO 85 0 3 g (o).length)]⟩ R :=
  wb_app (bi := 0) (j := 3) hx rfl rfl (by omega) (by omega) (by omega) (ltH_cons (by omega) (objLt_all rfl) (ltH_cons (by omega) objLt_by (ltH_cons (by omega) (objLt_all rfl) (ltH_cons (by omega) (objLt_all rfl) (ltH_cons (by omega) (objLt_all rfl) ltH_nil))))) hlen hk
theorem ws5 {v1 v2 : V} {b0 : UInt8} {s : List UInt8} {g : Nat} {o : List UInt8} {R : AEnd → Heap → Prop} (hlen : o.length + s.length ≤ 140737488355328) (hk : ∀ g', R (.ret (.tup [.int .i64 s.length, .nili])) ⟨5, [(4, (.vec 0 3 [V.sv v2] ⟨false, some 65⟩)), (3, bufO 5 g' (o ++ s)), (2, (.vec 0 1 [byS b0] ⟨false, some 5⟩)), (1, (.vec 0 3 [V.sv v1] ⟨false, some 65⟩)), (0, bldO 85 0 3 g' (o ++ s).length)]⟩) :
    ACall Tryd.prog 62 [.ref 0 0 0 0, .str s] ⟨5, [(4, (.vec 0 3 [V.sv v2] ⟨false, some 65⟩)), (3, bufO 5 g (o)), (2, (.vec 0 1 [byS b0] ⟨false, some 5⟩)), (1, (.vec 0 3 [V.sv v1] ⟨false, some 65⟩)), (0, bldO 85 0 3 g (o).length)]⟩ R :=
  ws_app (bi := 0) (j := 3) rfl rfl (by omega) (by omega) (by omega) (ltH_cons (by omega) (objLt_all rfl) (ltH_cons (by omega) objLt_by (ltH_cons (by omega) (objLt_all rfl) (ltH_cons (by omega) (objLt_all rfl) (ltH_cons (by omega) (objLt_all rfl) ltH_nil))))) hlen hk
theorem fx5 {v1 v2 : V} {b0 : UInt8} {x : Nat} {X : Int} {g : Nat} {o : List UInt8} {R : AEnd → Heap → Prop} (hX : X = (x : Int)) (hlen : o.length + 8 ≤ 140737488355328) (hk : ∀ g', R (.ret (.tup [])) ⟨5, [(4, (.vec 0 3 [V.sv v2] ⟨false, some 65⟩)), (3, bufO 5 g' (o ++ beB 8 x)), (2, (.vec 0 1 [byS b0] ⟨false, some 5⟩)), (1, (.vec 0 3 [V.sv v1] ⟨false, some 65⟩)), (0, bldO 85 0 3 g' (o ++ beB 8 x).length)]⟩) :
    ACall Tryd.prog 61 [.ref 0 0 0 0, .int .u64 X, .int .i64 8] ⟨5, [(4, (.vec 0 3 [V.sv v2] ⟨false, some 65⟩)), (3, bufO 5 g (o)), (2, (.vec 0 1 [byS b0] ⟨false, some 5⟩)), (1, (.vec 0 3 [V.sv v1] ⟨false, some 65⟩)), (0, bldO 85 0 3 g (o).length)]⟩ R :=
  fixed_app (bi := 0) (j := 3) hX rfl rfl (by omega) (by omega) (by omega) (ltH_cons (by omega) (objLt_all rfl) (ltH_cons (by omega) objLt_by (ltH_cons (by omega) (objLt_all rfl) (ltH_cons (by omega) (objLt_all rfl) (ltH_cons (by omega) (objLt_all rfl) ltH_nil))))) hlen hk
theorem tabsB : TabsOk Tryd.prog [(60, t60), (89, t89)] := .cons tab60 (.cons tab89 .nil)
theorem wb0 {o1 : AObj} {x : Int} {b0 : UInt8} {R : AEnd → Heap → Prop} (hx : SV.int .u8 x = byS b0)
    (hk : R (.ret .nili) ⟨4, [(3, .vec 0 1 [byS b0] ⟨true, some 5⟩), (2, .vec 0 1 [byS b0] ⟨false, some 5⟩), (1, o1), (0, bldO 85 0 3 0 1)]⟩) :
    ACall Tryd.prog 60 [.ref 0 0 0 0, .int .u8 x] ⟨2, [(1, o1), (0, .vec 0 2 [.agg [.nilp, .nils]] ⟨false, some 85⟩)]⟩ R := by
  rw [hx]
  exact (lvl_sound mixed tabsB 10).1.call _ _ _ _ (Eq.mpr (show (lvl Tryd.prog [(60, t60), (89, t89)] 10).1.call 60 [.ref 0 0 0 0, byS b0] ⟨2, [(1, o1), (0, .vec 0 2 [.agg [.nilp, .nils]] ⟨false, some 85⟩)]⟩ R = R (.ret .nili) ⟨4, [(3, .vec 0 1 [byS b0] ⟨true, some 5⟩), (2, .vec 0 1 [byS b0] ⟨false, some 5⟩), (1, o1), (0, bldO 85 0 3 0 1)]⟩ by kernel_rfl) hk)
def tupE (l : List V) : Int := if 16 < l.length then 3 else if l.all okV then 0 else 2
def tupT (l : List V) : List UInt8 := if 16 < l.length then [] else if l.all okV then l.flatMap textB else []
def V.In' (v : V) : Prop := -9223372036854775808 ≤ v.n ∧ v.n ≤ 9223372036854775807
end Go.Proofs.YtcklfcagailoiaaDoor
namespace Go.Proofs.YtcklfcagailoiaaDoor
open Ab Go.RowKit
set_option maxRecDepth 100000
set_option linter.unusedVariables false
set_option linter.unusedSimpArgs false
set_option pp.maxSteps 3000
@[reducible] def tu2 (t : List UInt8) (e : Int) : SV := .tup [.str t, .int .i64 e]
theorem tu2_lit {t : List UInt8} {e : Int} : LitV (tu2 t e) := lit2 (.str _) (.int _ _)
structure TuS (l : List V) where
  k : Nat
  g : Nat
  h1 : 1 ≤ k
  hk : k ≤ l.length
  hok : (l.take k).all okV = true
theorem lt_by {n : Nat} {s : List UInt8} : ∀ v ∈ s.map byS, SV.lt 8 n v = true := by
  intro v hv
  obtain ⟨b, _, rfl⟩ := List.mem_map.1 hv
  rfl
theorem lt_one {n : Nat} {u : SV} (h : SV.lt 8 n u = true) : ∀ v ∈ [u], SV.lt 8 n v = true := by
  intro v hv
  simp only [List.mem_singleton] at hv
  subst hv
  exact h
attribute [local irreducible] allLtK
theorem okV_kind {v : V} (h : okV v = true) : v.k = 0 ∨ v.k = 1 ∨ v.k = 2 ∨ v.k = 3 := by
  unfold okV at h
  split at h
  · omega
  split at h
  · omega
  split at h
  · omega
  split at h
  · omega
  cases h
theorem takeV {l : List V} {k : Nat} (h : k < l.length) : l.take (k + 1) = l.take k ++ [l.getD k vnull] := by
  rw [List.take_add_one]
  simp [List.getD, h]
theorem all_bad {l : List V} {k : Nat} (h : k < l.length) (hb : okV (l.getD k vnull) = false) : l.all okV = false := by
  rw [List.all_eq_false]
  exact ⟨l.getD k vnull, by simp [List.getD, h], by rw [hb]; simp⟩
theorem flat_len {l : List V} (h : l.all okV = true) : (l.flatMap textB).length ≤ 300 * l.length := by
  induction l with
  | nil => simp
  | cons v r ih =>
    simp only [List.all_cons, Bool.and_eq_true] at h
    have h1 := textB_len h.1
    have h2 := ih h.2
    simp only [List.flatMap_cons, List.length_append, List.length_cons]
    omega
theorem tuple_any {l : List V} (hin : ∀ v ∈ l, v.In') (hlen : l.length ≤ 4611686018427387904) : PCall Tryd.prog 27 [lstV l] (tu2 (tupT l) (tupE l)) := by
  refine pcall_of (lits1 (.lst _ _ _)) (call27 rfl ?_)
  by_cases h16 : 16 < l.length
  · have hd : decide ((16 : Int) < (l.length : Int)) = true := decide_eq_true (by omega)
    iterate 8 (all_goals (try conv => whnf); all_goals (try first | with_reducible refine brY (by assumption) ?_ | with_reducible refine brN (by assumption) ?_ | (with_reducible refine brT ?_ ?_; · (simp only [Bool.and_eq_true, Bool.not_eq_true', decide_eq_true_eq, decide_eq_false_iff_not, beq_iff_eq, beq_eq_false_iff_ne, ne_eq] at *; omega)) | with_reducible refine br (fun _ => ?_) (fun _ => ?_) | with_reducible refine ⟨rfl, ?_⟩ | with_reducible refine ARound.succ ?_))
    exact leaf (by unfold tupT tupE; rw [if_pos h16, if_pos h16]) tu2_lit
  have hd : decide ((16 : Int) < (l.length : Int)) = false := decide_eq_false (by omega)
  have bad : ∀ k, k < l.length → okV (l.getD k vnull) = false → tu2 [] 2 = tu2 (tupT l) (tupE l) := fun k hk hb => by
    unfold tupT tupE; rw [if_neg h16, if_neg h16, all_bad hk hb]; rfl
  by_cases h0 : l = []
  · subst h0
    iterate 20 (all_goals (try conv => whnf); all_goals (try first | with_reducible refine brY (by assumption) ?_ | with_reducible refine brN (by assumption) ?_ | (with_reducible refine brT ?_ ?_; · (simp only [Bool.and_eq_true, Bool.not_eq_true', decide_eq_true_eq, decide_eq_false_iff_not, beq_iff_eq, beq_eq_false_iff_ne, ne_eq] at *; omega)) | with_reducible refine br (fun _ => ?_) (fun _ => ?_) | with_reducible refine ⟨rfl, ?_⟩ | with_reducible refine ARound.succ ?_ | (refine bs_empty ?_) | with_reducible refine loop_rounds 2 ?_))
    exact leaf rfl tu2_lit
  have hpos : 0 < l.length := by cases l with | nil => exact absurd rfl h0 | cons c r => simp
  iterate 8 (all_goals (try conv => whnf); all_goals (try first | with_reducible refine brY (by assumption) ?_ | with_reducible refine brN (by assumption) ?_ | (with_reducible refine brT ?_ ?_; · (simp only [Bool.and_eq_true, Bool.not_eq_true', decide_eq_true_eq, decide_eq_false_iff_not, beq_iff_eq, beq_eq_false_iff_ne, ne_eq] at *; omega)) | with_reducible refine br (fun _ => ?_) (fun _ => ?_) | with_reducible refine ⟨rfl, ?_⟩ | with_reducible refine ARound.succ ?_))
  refine loop_two (σ := TuS l) (fun s => [(0, lstV l), (2, SV.str []), (3, SV.int IntKind.i64 0), (10, SV.bool false), (4, SV.ref 0 0 0 0), (11, lstV l), (12, SV.int IntKind.i64 (l.length : Nat)), (13, SV.int IntKind.i64 s.k)])
    (fun s => ⟨4, [(3, bufO 5 s.g ((l.take s.k).flatMap textB)), (2, (.vec 0 1 [byS (UInt8.ofNat ((l.getD 0 vnull).k + 1).toNat)] ⟨false, some 5⟩)), (1, (.vec 0 3 [V.sv (l.getD 0 vnull)] ⟨false, some 65⟩)), (0, bldO 85 0 3 s.g ((l.take s.k).flatMap textB).length)]⟩) (fun s => l.length - s.k) l.length 4 (by decide) ?_ ?_
  · have hd : decide ((0 : Int) < ((l.length : Nat) : Int)) = true := decide_eq_true (by omega)
    have i1 := hin (l.getD 0 vnull) (by simp [List.getD, hpos])
    cases hok : okV (l.getD 0 vnull)
    · have hc : chk (l.getD 0 vnull) = 2 := by unfold chk; rw [hok]; rfl
      have cc := check_any (l.getD 0 vnull)
      rw [hc] at cc
      have hv : l.getD (Int.toNat 0) vnull = l.getD 0 vnull := rfl
      iterate 14 (all_goals (try conv => whnf); all_goals (try first | with_reducible refine brY (by assumption) ?_ | with_reducible refine brN (by assumption) ?_ | (with_reducible refine brT ?_ ?_; · (simp only [Bool.and_eq_true, Bool.not_eq_true', decide_eq_true_eq, decide_eq_false_iff_not, beq_iff_eq, beq_eq_false_iff_ne, ne_eq] at *; omega)) | with_reducible refine br (fun _ => ?_) (fun _ => ?_) | with_reducible refine ⟨rfl, ?_⟩ | with_reducible refine ARound.succ ?_ | with_reducible refine PCall.call (cc) ?_ | (rw [hv])))
      exact leaf (bad 0 hpos hok) tu2_lit
    · have hc : chk (l.getD 0 vnull) = 0 := by unfold chk; rw [hok]; rfl
      have cc := check_any (l.getD 0 vnull)
      rw [hc] at cc
      have ht : l.take 1 = [l.getD 0 vnull] := by rw [takeV hpos]; rfl
      have okt : (l.take 1).all okV = true := by rw [ht, List.all_cons, hok]; rfl
      have e71 : IntKind.i64.wrap (0 + 1) = ((1 : Nat) : Int) := by decide
      have hkk := okV_kind hok
      have hv : l.getD (Int.toNat 0) vnull = l.getD 0 vnull := rfl
      obtain ⟨k, n, t, hvv⟩ : ∃ k n t, l.getD 0 vnull = ⟨k, n, t⟩ := ⟨_, _, _, rfl⟩
      rw [hvv] at hkk hok cc i1 ht
      rw [hvv] at hv
      dsimp only at hkk
      rcases hkk with rfl | rfl | rfl | rfl
      · have hfl : (l.take 1).flatMap textB = [1] := by rw [ht]; rfl
        iterate 24 (all_goals (try conv => whnf); all_goals (try first | with_reducible refine brY (by assumption) ?_ | with_reducible refine brN (by assumption) ?_ | (with_reducible refine brT ?_ ?_; · (simp only [Bool.and_eq_true, Bool.not_eq_true', decide_eq_true_eq, decide_eq_false_iff_not, beq_iff_eq, beq_eq_false_iff_ne, ne_eq] at *; omega)) | with_reducible refine br (fun _ => ?_) (fun _ => ?_) | with_reducible refine ⟨rfl, ?_⟩ | with_reducible refine ARound.succ ?_ | with_reducible refine PCall.call (cc) ?_ | (rw [hv]) | (refine wb0 (b0 := 1) rfl ?_)))
        refine ⟨⟨1, 0, Nat.le_refl _, hpos, okt⟩, by dsimp only; omega, by rw [e71], ?_⟩
        dsimp only; rw [hfl, hvv]; rfl
      · have hn : n = 0 ∨ n = 1 := by
          unfold okV at hok
          simp at hok
          exact hok.1
        have hfl : (l.take 1).flatMap textB = [2] ++ [if n = 0 then 0 else 1] := by rw [ht]; rfl
        have hx : SV.int .u8 (IntKind.u8.wrap n) = byS (if n = 0 then 0 else 1) := by rcases hn with rfl | rfl <;> rfl
        iterate 30 (all_goals (try conv => whnf); all_goals (try first | with_reducible refine brY (by assumption) ?_ | with_reducible refine brN (by assumption) ?_ | (with_reducible refine brT ?_ ?_; · (simp only [Bool.and_eq_true, Bool.not_eq_true', decide_eq_true_eq, decide_eq_false_iff_not, beq_iff_eq, beq_eq_false_iff_ne, ne_eq] at *; omega)) | with_reducible refine br (fun _ => ?_) (fun _ => ?_) | with_reducible refine ⟨rfl, ?_⟩ | with_reducible refine ARound.succ ?_ | with_reducible refine PCall.call (cc) ?_ | (rw [hv]) | (refine wb0 (b0 := 2) rfl ?_) | (refine wb4 (v1 := ⟨1, n, t⟩) (b0 := 2) (g := 0) (o := [2]) hx (by decide) ?_)))
        refine ⟨⟨1, 1, Nat.le_refl _, hpos, okt⟩, by dsimp only; omega, by rw [e71], ?_⟩
        dsimp only; rw [hfl, hvv]; rfl
      · have hfl : (l.take 1).flatMap textB = [3] ++ beB 8 (n + 9223372036854775808).toNat := by rw [ht]; rfl
        iterate 30 (all_goals (try conv => whnf); all_goals (try first | with_reducible refine brY (by assumption) ?_ | with_reducible refine brN (by assumption) ?_ | (with_reducible refine brT ?_ ?_; · (simp only [Bool.and_eq_true, Bool.not_eq_true', decide_eq_true_eq, decide_eq_false_iff_not, beq_iff_eq, beq_eq_false_iff_ne, ne_eq] at *; omega)) | with_reducible refine br (fun _ => ?_) (fun _ => ?_) | with_reducible refine ⟨rfl, ?_⟩ | with_reducible refine ARound.succ ?_ | with_reducible refine PCall.call (cc) ?_ | (rw [hv]) | (refine wb0 (b0 := 3) rfl ?_) | (refine fx4 (v1 := ⟨2, n, t⟩) (b0 := 3) (g := 0) (o := [3]) (top_xor i1.1 i1.2) (by decide) (fun g1 => ?_))))
        refine ⟨⟨1, g1, Nat.le_refl _, hpos, okt⟩, by dsimp only; omega, by rw [e71], ?_⟩
        dsimp only; rw [hfl, hvv]; rfl
      · have ht64 : t.length ≤ 64 := by
          unfold okV at hok
          simp at hok
          exact hok.2
        have hrl := repB_len 0 (nw := [0, 255]) (k := 2) (by decide) (by omega) t
        have cr := replaceAll_any (b := 0) (nw := [0, 255]) (s := t) (by decide) (by decide) (by decide) (by omega)
        have hfl : (l.take 1).flatMap textB = [4] ++ repB 0 [0, 255] t ++ [0, 1] := by rw [ht]; simp [textB]
        iterate 40 (all_goals (try conv => whnf); all_goals (try first | with_reducible refine brY (by assumption) ?_ | with_reducible refine brN (by assumption) ?_ | (with_reducible refine brT ?_ ?_; · (simp only [Bool.and_eq_true, Bool.not_eq_true', decide_eq_true_eq, decide_eq_false_iff_not, beq_iff_eq, beq_eq_false_iff_ne, ne_eq] at *; omega)) | with_reducible refine br (fun _ => ?_) (fun _ => ?_) | with_reducible refine ⟨rfl, ?_⟩ | with_reducible refine ARound.succ ?_ | with_reducible refine PCall.call (cc) ?_ | (rw [hv]) | (refine wb0 (b0 := 4) rfl ?_) | (refine PCall.call cr ?_) | (refine ws4 (v1 := ⟨3, n, t⟩) (b0 := 4) (g := 0) (o := [4]) (by simp only [List.length_cons, List.length_nil]; omega) (fun g1 => ?_)) | (refine ws4 (v1 := ⟨3, n, t⟩) (b0 := 4) (g := g1) (o := [4] ++ repB 0 [0, 255] t) (by simp only [List.length_append, List.length_cons, List.length_nil]; omega) (fun g2 => ?_))))
        refine ⟨⟨1, g2, Nat.le_refl _, hpos, okt⟩, by dsimp only; omega, by rw [e71], ?_⟩
        dsimp only; rw [hfl, hvv]; rfl
  · rintro ⟨k, g, h1, hk, hok0⟩
    dsimp only
    have hOl : ((l.take k).flatMap textB).length ≤ 4800 := by
      have := flat_len hok0
      have h2 : (l.take k).length ≤ l.length := by rw [List.length_take]; omega
      omega
    by_cases hkl : k < l.length
    · have hd : decide ((k : Int) < ((l.length : Nat) : Int)) = true := decide_eq_true (by omega)
      have i1 := hin (l.getD k vnull) (by simp [List.getD, hkl])
      have hv : l.getD (k : Int).toNat vnull = l.getD k vnull := by rw [Int.toNat_natCast]
      cases hok : okV (l.getD k vnull)
      · have hc : chk (l.getD k vnull) = 2 := by unfold chk; rw [hok]; rfl
        have cc := check_any (l.getD k vnull)
        rw [hc] at cc
        iterate 14 (all_goals (try conv => whnf); all_goals (try first | with_reducible refine brY (by assumption) ?_ | with_reducible refine brN (by assumption) ?_ | (with_reducible refine brT ?_ ?_; · (simp only [Bool.and_eq_true, Bool.not_eq_true', decide_eq_true_eq, decide_eq_false_iff_not, beq_iff_eq, beq_eq_false_iff_ne, ne_eq] at *; omega)) | with_reducible refine br (fun _ => ?_) (fun _ => ?_) | with_reducible refine ⟨rfl, ?_⟩ | with_reducible refine ARound.succ ?_ | with_reducible refine PCall.call (cc) ?_ | (rw [hv])))
        exact leaf (bad k hkl hok) tu2_lit
      · have hc : chk (l.getD k vnull) = 0 := by unfold chk; rw [hok]; rfl
        have cc := check_any (l.getD k vnull)
        rw [hc] at cc
        have okt : (l.take (k + 1)).all okV = true := by rw [takeV hkl, List.all_append, hok0, List.all_cons, hok]; rfl
        have e71 : IntKind.i64.wrap ((k : Int) + 1) = ((k + 1 : Nat) : Int) := w64add (by omega)
        have hkk := okV_kind hok
        have hto : (l.take (k + 1)).flatMap textB = (l.take k).flatMap textB ++ textB (l.getD k vnull) := by rw [takeV hkl, List.flatMap_append]; simp
        obtain ⟨kk, n, t, hvv⟩ : ∃ k' n t, l.getD k vnull = ⟨k', n, t⟩ := ⟨_, _, _, rfl⟩
        rw [hvv] at hkk hok cc i1 hto
        rw [hvv] at hv
        dsimp only at hkk
        rcases hkk with rfl | rfl | rfl | rfl
        · have hfl : (l.take (k + 1)).flatMap textB = (l.take k).flatMap textB ++ [1] := hto
          iterate 34 (all_goals (try conv => whnf); all_goals (try first | with_reducible refine brY (by assumption) ?_ | with_reducible refine brN (by assumption) ?_ | (with_reducible refine brT ?_ ?_; · (simp only [Bool.and_eq_true, Bool.not_eq_true', decide_eq_true_eq, decide_eq_false_iff_not, beq_iff_eq, beq_eq_false_iff_ne, ne_eq] at *; omega)) | with_reducible refine br (fun _ => ?_) (fun _ => ?_) | with_reducible refine ⟨rfl, ?_⟩ | with_reducible refine ARound.succ ?_ | with_reducible refine PCall.call (cc) ?_ | (rw [hv]) | (refine wb5 (v2 := ⟨0, n, t⟩) (c := 1) rfl (by omega) ?_) | (refine allLtK_of lt_by ?_) | (refine allLtK_of (lt_one rfl) ?_)))
          refine ⟨⟨k + 1, g + 1, by omega, hkl, okt⟩, by dsimp only; omega, by rw [e71], ?_⟩
          dsimp only; rw [hfl]
        · have hn : n = 0 ∨ n = 1 := by
            unfold okV at hok
            simp at hok
            exact hok.1
          have hfl : (l.take (k + 1)).flatMap textB = (l.take k).flatMap textB ++ [2] ++ [if n = 0 then 0 else 1] := by rw [hto, List.append_assoc]; rfl
          have hx : SV.int .u8 (IntKind.u8.wrap n) = byS (if n = 0 then 0 else 1) := by rcases hn with rfl | rfl <;> rfl
          iterate 40 (all_goals (try conv => whnf); all_goals (try first | with_reducible refine brY (by assumption) ?_ | with_reducible refine brN (by assumption) ?_ | (with_reducible refine brT ?_ ?_; · (simp only [Bool.and_eq_true, Bool.not_eq_true', decide_eq_true_eq, decide_eq_false_iff_not, beq_iff_eq, beq_eq_false_iff_ne, ne_eq] at *; omega)) | with_reducible refine br (fun _ => ?_) (fun _ => ?_) | with_reducible refine ⟨rfl, ?_⟩ | with_reducible refine ARound.succ ?_ | with_reducible refine PCall.call (cc) ?_ | (rw [hv]) | (refine wb5 (v2 := ⟨1, n, t⟩) (c := 2) (o := (l.take k).flatMap textB) rfl (by omega) ?_) | (refine wb5 (v2 := ⟨1, n, t⟩) (o := (l.take k).flatMap textB ++ [2]) hx (by simp only [List.length_append, List.length_cons, List.length_nil]; omega) ?_) | (refine allLtK_of lt_by ?_) | (refine allLtK_of (lt_one rfl) ?_)))
          refine ⟨⟨k + 1, g + 1 + 1, by omega, hkl, okt⟩, by dsimp only; omega, by rw [e71], ?_⟩
          dsimp only; rw [hfl]
        · have hfl : (l.take (k + 1)).flatMap textB = (l.take k).flatMap textB ++ [3] ++ beB 8 (n + 9223372036854775808).toNat := by rw [hto, List.append_assoc]; rfl
          iterate 40 (all_goals (try conv => whnf); all_goals (try first | with_reducible refine brY (by assumption) ?_ | with_reducible refine brN (by assumption) ?_ | (with_reducible refine brT ?_ ?_; · (simp only [Bool.and_eq_true, Bool.not_eq_true', decide_eq_true_eq, decide_eq_false_iff_not, beq_iff_eq, beq_eq_false_iff_ne, ne_eq] at *; omega)) | with_reducible refine br (fun _ => ?_) (fun _ => ?_) | with_reducible refine ⟨rfl, ?_⟩ | with_reducible refine ARound.succ ?_ | with_reducible refine PCall.call (cc) ?_ | (rw [hv]) | (refine wb5 (v2 := ⟨2, n, t⟩) (c := 3) (o := (l.take k).flatMap textB) rfl (by omega) ?_) | (refine fx5 (v2 := ⟨2, n, t⟩) (o := (l.take k).flatMap textB ++ [3]) (top_xor i1.1 i1.2) (by simp only [List.length_append, List.length_cons, List.length_nil]; omega) (fun g1 => ?_)) | (refine allLtK_of lt_by ?_) | (refine allLtK_of (lt_one rfl) ?_)))
          refine ⟨⟨k + 1, g1, by omega, hkl, okt⟩, by dsimp only; omega, by rw [e71], ?_⟩
          dsimp only; rw [hfl]
        · have ht64 : t.length ≤ 64 := by
            unfold okV at hok
            simp at hok
            exact hok.2
          have hrl := repB_len 0 (nw := [0, 255]) (k := 2) (by decide) (by omega) t
          have cr := replaceAll_any (b := 0) (nw := [0, 255]) (s := t) (by decide) (by decide) (by decide) (by omega)
          have hfl : (l.take (k + 1)).flatMap textB = (l.take k).flatMap textB ++ [4] ++ repB 0 [0, 255] t ++ [0, 1] := by rw [hto]; simp [textB]
          iterate 50 (all_goals (try conv => whnf); all_goals (try first | with_reducible refine brY (by assumption) ?_ | with_reducible refine brN (by assumption) ?_ | (with_reducible refine brT ?_ ?_; · (simp only [Bool.and_eq_true, Bool.not_eq_true', decide_eq_true_eq, decide_eq_false_iff_not, beq_iff_eq, beq_eq_false_iff_ne, ne_eq] at *; omega)) | with_reducible refine br (fun _ => ?_) (fun _ => ?_) | with_reducible refine ⟨rfl, ?_⟩ | with_reducible refine ARound.succ ?_ | with_reducible refine PCall.call (cc) ?_ | (rw [hv]) | (refine wb5 (v2 := ⟨3, n, t⟩) (c := 4) (o := (l.take k).flatMap textB) rfl (by omega) ?_) | (refine PCall.call cr ?_) | (refine ws5 (v2 := ⟨3, n, t⟩) (o := (l.take k).flatMap textB ++ [4]) (by simp only [List.length_append, List.length_cons, List.length_nil]; omega) (fun g1 => ?_)) | (refine ws5 (v2 := ⟨3, n, t⟩) (o := (l.take k).flatMap textB ++ [4] ++ repB 0 [0, 255] t) (by simp only [List.length_append, List.length_cons, List.length_nil]; omega) (fun g2 => ?_)) | (refine allLtK_of lt_by ?_) | (refine allLtK_of (lt_one rfl) ?_)))
          refine ⟨⟨k + 1, g2, by omega, hkl, okt⟩, by dsimp only; omega, by rw [e71], ?_⟩
          dsimp only; rw [hfl]
    · have hd : decide ((k : Int) < ((l.length : Nat) : Int)) = false := decide_eq_false (by omega)
      rw [List.take_of_length_le (by omega)] at hok0 hOl
      have hfp : 0 < (l.flatMap textB).length := by
        cases l with
        | nil => exact absurd rfl h0
        | cons v r => have := textB_pos v; rw [List.flatMap_cons, List.length_append]; omega
      have ee : tu2 (l.flatMap textB) 0 = tu2 (tupT l) (tupE l) := by unfold tupT tupE; rw [if_neg h16, if_neg h16, hok0]; rfl
      rw [List.take_of_length_le (by omega)]
      iterate 14 (all_goals (try conv => whnf); all_goals (try first | with_reducible refine brY (by assumption) ?_ | with_reducible refine brN (by assumption) ?_ | (with_reducible refine brT ?_ ?_; · (simp only [Bool.and_eq_true, Bool.not_eq_true', decide_eq_true_eq, decide_eq_false_iff_not, beq_iff_eq, beq_eq_false_iff_ne, ne_eq] at *; omega)) | with_reducible refine br (fun _ => ?_) (fun _ => ?_) | with_reducible refine ⟨rfl, ?_⟩ | with_reducible refine ARound.succ ?_ | (refine bs_str (bi := 0) (j := 3) (g := g) (o := l.flatMap textB) rfl rfl hfp (by omega) (fun l' => ?_))))
      exact leaf ee tu2_lit
end Go.Proofs.YtcklfcagailoiaaDoor
namespace Go.Proofs.YtcklfcagailoiaaDoor
open Ab Go.RowKit
set_option linter.unusedVariables false
noncomputable def rdKind : Rd Tryd.prog 63 Int := Rd.int (k := .u8) Tryd.underlying63 (by kernel_rfl)
noncomputable def rdValue : Rd Tryd.prog 65 V :=
  (Rd.struct Tryd.underlying65 (.cons rdKind rfl (.cons rdI64 rfl (.cons rdStr rfl .nil))) (by kernel_rfl)).map (fun x => ⟨x.1, x.2.1, x.2.2.1⟩) (fun v => [.int .u8 v.k, .int .i64 v.n, .str v.t]) V.In' (fun _ => rfl) (fun _ h => ⟨h.2.1.1, h.2.1.2⟩) fun _ => rfl
@[reducible] noncomputable def rdValues : Rd Tryd.prog 43 (List V) := Rd.slice Tryd.underlying43 (by kernel_rfl) rdValue (by decide) V.sv (fun _ => rfl) vnull
end Go.Proofs.YtcklfcagailoiaaDoor
