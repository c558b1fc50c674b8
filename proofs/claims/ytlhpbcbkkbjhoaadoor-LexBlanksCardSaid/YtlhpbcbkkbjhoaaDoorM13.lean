/- Parts of the proof of PLexBlanks, one behind the other. -/
import Derived.Test.YtlhpbcbkkbjhoaaDoorM12
import Derived.Test.YtlhpbcbkkbjhoaaDoorM8
import Derived.Test.YtlhpbcbkkbjhoaaDoorProg
import Derived.KernelRfl
namespace Go.Proofs.YtlhpbcbkkbjhoaaDoor
open Ab Go.RowKit
set_option maxRecDepth 100000
set_option linter.unusedVariables false
set_option linter.unusedSimpArgs false
set_option maxHeartbeats 4000000
set_option pp.maxSteps 3000
theorem up_eq : Lib.upperB = upB := by
  funext c
  have : ∀ n : Fin 256, Lib.upperB (UInt8.ofNat n.val) = upB (UInt8.ofNat n.val) := by decide +kernel
  have h := this ⟨c.toNat, UInt8.toNat_lt c⟩
  simpa using h
theorem toUpper_any {s : List UInt8} (hs : s.length ≤ 140737488355328) (ha : ∀ c ∈ s, c.toNat < 128) : PCall Tryd.prog 7 [.str s] (.str (s.map upB)) := by
  rw [← up_eq]
  refine pcall_below (lits1 (.str _)) (.str _) fun Im w xs hg him hz hv => ?_
  obtain rfl := args1 hz hv (fun _ h => h.str_inv')
  refine (Any.strings_ToUpper_ascii Tryd.lays158 Tryd.builderExtra158 ⟨s.toArray⟩ w (by simpa [ByteArray.size] using hs) fun j b hb => ha b (List.mem_of_getElem? (by simpa using hb))).mono fun e w' h => ?_
  obtain ⟨rfl, hb⟩ := h
  exact ⟨⟨_, rfl, .str _⟩, hb⟩
/-- The blank that is put behind the i-th token. -/
def bkN (b : Int) (i : Nat) : Int := (IntKind.i64.wrap (IntKind.i64.wrap (b.tmod 4 + (i : Int).tmod 4) + 4)).tmod 4
def bk (b : Int) (i : Nat) : UInt8 := ([9, 10, 13, 32] : List UInt8).getD (bkN b i).toNat 0
theorem bkN_in (b : Int) (i : Nat) : 0 ≤ bkN b i ∧ bkN b i < 4 := by
  have h1 : -4 < b.tmod 4 ∧ b.tmod 4 < 4 := by
    constructor
    · have := Int.lt_tmod_of_pos b (show (0 : Int) < 4 by decide); omega
    · exact Int.tmod_lt_of_pos b (by decide)
  have h2 : 0 ≤ (i : Int).tmod 4 ∧ (i : Int).tmod 4 < 4 := ⟨Int.tmod_nonneg _ (by omega), Int.tmod_lt_of_pos _ (by decide)⟩
  have h0 : 0 ≤ IntKind.i64.wrap (IntKind.i64.wrap (b.tmod 4 + (i : Int).tmod 4) + 4) := by
    rw [w64 (x := b.tmod 4 + (i : Int).tmod 4) (by omega) (by omega), w64 (by omega) (by omega)]; omega
  exact ⟨Int.tmod_nonneg _ h0, Int.tmod_lt_of_pos _ (by decide)⟩
theorem bk_blank (b : Int) (i : Nat) : isBlank (bk b i) = true := by
  obtain ⟨h1, h2⟩ := bkN_in b i
  unfold bk
  generalize bkN b i = j at h1 h2
  obtain ⟨n, rfl⟩ : ∃ n : Nat, j = n := ⟨j.toNat, by omega⟩
  have : ∀ n : Fin 4, isBlank (([9, 10, 13, 32] : List UInt8).getD n.val 0) = true := by decide
  rw [Int.toNat_natCast]
  exact this ⟨n, by omega⟩
theorem bk_get (b : Int) (i : Nat) : ([SV.int .u8 9, .int .u8 10, .int .u8 13, .int .u8 32] : List SV)[0 + (bkN b i).toNat]? = some (byS (bk b i)) := by
  obtain ⟨h1, h2⟩ := bkN_in b i
  unfold bk
  generalize bkN b i = j at h1 h2
  obtain ⟨n, rfl⟩ : ∃ n : Nat, j = n := ⟨j.toNat, by omega⟩
  rw [Int.toNat_natCast, Nat.zero_add]
  rcases (by omega : n = 0 ∨ n = 1 ∨ n = 2 ∨ n = 3) with rfl | rfl | rfl | rfl <;> rfl
attribute [local irreducible] appendK allLtK readP bytesK
theorem lexBlanks_any {s : List UInt8} {b : Int} : PCall Tryd.prog 3 [.str s, .int .i64 b] (.bool true) := by
  refine pcall_of (lits2 (.str _) (.int _ _)) (call3 rfl ?_)
  by_cases h4 : 4000 < s.length
  · have q1 : decide ((4000 : Int) < (s.length : Int)) = true := decide_eq_true (by omega)
    iterate 12 (all_goals (try conv => whnf); all_goals (try first | with_reducible refine brY (by assumption) ?_ | with_reducible refine brN (by assumption) ?_ | (with_reducible refine brT ?_ ?_; · (simp only [Bool.and_eq_true, Bool.not_eq_true', decide_eq_true_eq, decide_eq_false_iff_not, beq_iff_eq, beq_eq_false_iff_ne, ne_eq] at *; omega)) | with_reducible refine br (fun _ => ?_) (fun _ => ?_) | with_reducible refine ⟨rfl, ?_⟩ | with_reducible refine ARound.succ ?_ | with_reducible refine PCall.call (lives_any) ?_))
    exact leaf rfl (.bool _)
  have q1 : decide ((4000 : Int) < (s.length : Int)) = false := decide_eq_false (by omega)
  have hl := lex_any (s := s) (by omega)
  have hlx := lexGo_lexed s.length s 0
  cases hL : lexL s with
  | error e =>
    obtain ⟨e, a⟩ := e
    rw [hL] at hl
    have he := lexGo_err0 s.length s 0 e a hL
    have q2 : (!(fun q => e == 0 && q) ((a : Int) == 0)) = true := by
      have : (e == 0) = false := by rw [beq_eq_false_iff_ne]; exact he
      simp [this]
    iterate 24 (all_goals (try conv => whnf); all_goals (try first | with_reducible refine brY (by assumption) ?_ | with_reducible refine brN (by assumption) ?_ | (with_reducible refine brT ?_ ?_; · (simp only [Bool.and_eq_true, Bool.not_eq_true', decide_eq_true_eq, decide_eq_false_iff_not, beq_iff_eq, beq_eq_false_iff_ne, ne_eq] at *; omega)) | with_reducible refine br (fun _ => ?_) (fun _ => ?_) | with_reducible refine ⟨rfl, ?_⟩ | with_reducible refine ARound.succ ?_ | with_reducible refine PCall.call (lives_any) ?_ | with_reducible refine PCall.call (hl) ?_ | (refine readP_of ?_)))
    exact leaf rfl (.bool _)
  | ok l =>
    rw [hL] at hl
    cases l with
    | nil =>
      have hl0 := lex_any (s := []) (by simp)
      rw [show lexL [] = .ok [] from rfl] at hl0
      iterate 50 (all_goals (try conv => whnf); all_goals (try first | with_reducible refine brY (by assumption) ?_ | with_reducible refine brN (by assumption) ?_ | (with_reducible refine brT ?_ ?_; · (simp only [Bool.and_eq_true, Bool.not_eq_true', decide_eq_true_eq, decide_eq_false_iff_not, beq_iff_eq, beq_eq_false_iff_ne, ne_eq] at *; omega)) | with_reducible refine br (fun _ => ?_) (fun _ => ?_) | with_reducible refine ⟨rfl, ?_⟩ | with_reducible refine ARound.succ ?_ | with_reducible refine PCall.call (lives_any) ?_ | with_reducible refine PCall.call (hl) ?_ | with_reducible refine PCall.call (hl0) ?_ | with_reducible refine PCall.call (placed_nils) ?_ | with_reducible refine PCall.call (same_T (l := []) (by simp)) ?_ | (refine readP_of ?_) | with_reducible refine loop_rounds 1 ?_))
      exact leaf rfl (.bool _)
    | cons x l =>
      have hX := hlx (x :: l) (Nat.le_refl _) hL
      iterate 24 (all_goals (try conv => whnf); all_goals (try first | with_reducible refine brY (by assumption) ?_ | with_reducible refine brN (by assumption) ?_ | (with_reducible refine brT ?_ ?_; · (simp only [Bool.and_eq_true, Bool.not_eq_true', decide_eq_true_eq, decide_eq_false_iff_not, beq_iff_eq, beq_eq_false_iff_ne, ne_eq] at *; omega)) | with_reducible refine br (fun _ => ?_) (fun _ => ?_) | with_reducible refine ⟨rfl, ?_⟩ | with_reducible refine ARound.succ ?_ | with_reducible refine PCall.call (lives_any) ?_ | with_reducible refine PCall.call (hl) ?_ | (refine readP_of ?_)))
      have hlen := lexed_len hX
      generalize hxl : x :: l = L at hX hlen
      have hL0 : 0 < L.length := by rw [← hxl]; simp
      refine loop_ind (σ := {i : Nat // i ≤ L.length}) (fun y => [(0, SV.str s), (1, SV.int IntKind.i64 b), (4, SV.bool false), (14, SV.bool false), (17, SV.bool false), (6, SV.ref 0 0 0 0), (5, lstT L), (25, SV.bool false), (7, SV.str (toldU s L (bk b) y.1)), (8, SV.int IntKind.i64 y.1)])
        (fun _ => ⟨1, [(0, .vec 0 2 [fltS 0 0] ⟨false, some 26⟩)]⟩) (fun y => L.length - y.1) ?_ ⟨0, by omega⟩
      rintro ⟨i, hi⟩
      dsimp only
      have e7 : IntKind.i64.wrap ((i : Int) + 1) = ((i + 1 : Nat) : Int) := by rw [w64 (by omega) (by omega)]; omega
      have et := Int.toNat_natCast i
      have htl := toldU_len (bk := bk b) hX i hi
      by_cases hil : i < L.length
      · have hd : decide ((i : Int) < (L.length : Int)) = true := decide_eq_true (by omega)
        obtain ⟨o1, o2, o3⟩ := own_len hX hil
        have hb1 : (decide (0 ≤ (i : Int)) && decide ((i : Int) < (L.length : Int))) = true := by simp only [Bool.and_eq_true, decide_eq_true_eq]; omega
        have gi : (L.getD (i : Int).toNat tnull).2 = toP L i s.length := by
          rw [et]; unfold toP
          simp [List.getD, List.getElem?_eq_getElem hil]
        have hb4 : (decide (0 ≤ (IntKind.i64.wrap (IntKind.i64.wrap (b.tmod 4 + (i : Int).tmod 4) + 4)).tmod 4) && decide ((IntKind.i64.wrap (IntKind.i64.wrap (b.tmod 4 + (i : Int).tmod 4) + 4)).tmod 4 < ((4 : Nat) : Int))) = true := by
          have := bkN_in b i
          unfold bkN at this
          simp only [Bool.and_eq_true, decide_eq_true_eq]; exact this
        by_cases hj : i + 1 < L.length
        · have hd2 : decide (IntKind.i64.wrap ((i : Int) + 1) < (L.length : Int)) = true := decide_eq_true (by rw [e7]; omega)
          have hb2 : (decide (0 ≤ IntKind.i64.wrap ((i : Int) + 1)) && decide (IntKind.i64.wrap ((i : Int) + 1) < (L.length : Int))) = true := by rw [e7]; simp only [Bool.and_eq_true, decide_eq_true_eq]; omega
          have gj : (L.getD (IntKind.i64.wrap ((i : Int) + 1)).toNat tnull).2 = toP L (i + 1) s.length := by
            rw [e7, Int.toNat_natCast]; unfold toP
            simp [List.getD, List.getElem?_eq_getElem hj]
          have hb3 : (decide (0 ≤ ((L.getD (i : Int).toNat tnull).2 : Int)) && decide (((L.getD (i : Int).toNat tnull).2 : Int) ≤ ((L.getD (IntKind.i64.wrap ((i : Int) + 1)).toNat tnull).2 : Int)) && decide (((L.getD (IntKind.i64.wrap ((i : Int) + 1)).toNat tnull).2 : Int) ≤ (s.length : Int))) = true := by
            rw [gi, gj]; simp only [Bool.and_eq_true, decide_eq_true_eq]; omega
          have ow : List.take (((L.getD (IntKind.i64.wrap ((i : Int) + 1)).toNat tnull).2 : Int).toNat - ((L.getD (i : Int).toNat tnull).2 : Int).toNat) (List.drop ((L.getD (i : Int).toNat tnull).2 : Int).toNat s) = ownL s L i := by
            rw [gi, gj, Int.toNat_natCast, Int.toNat_natCast]; rfl
          by_cases hk : (L.getD i tnull).1.k = 1
          · have hkk : ((L.getD (i : Int).toNat tnull).1.k == 1) = true := by rw [et]; simpa using hk
            have cu : PCall Tryd.prog 7 [.str (List.take (((L.getD (IntKind.i64.wrap ((i : Int) + 1)).toNat tnull).2 : Int).toNat - ((L.getD (i : Int).toNat tnull).2 : Int).toNat) (List.drop ((L.getD (i : Int).toNat tnull).2 : Int).toNat s))] (.str ((ownL s L i).map upB)) := by rw [ow]; exact toUpper_any (s := ownL s L i) (by omega) (own_ascii hX hil hk)
            have k1 : decide ((toldU s L (bk b) i).length + ((ownL s L i).map upB).length ≤ 9223372036854775807) = true := decide_eq_true (by rw [List.length_map]; omega)
            have k2 : decide ((toldU s L (bk b) i ++ (ownL s L i).map upB).length + [bk b i].length ≤ 9223372036854775807) = true := decide_eq_true (by rw [List.length_append, List.length_map, List.length_singleton]; omega)
            have es : toldU s L (bk b) (i + 1) = toldU s L (bk b) i ++ (ownL s L i).map upB ++ [bk b i] := congrArg (fun z => toldU s L (bk b) i ++ z ++ [bk b i]) (if_pos hk)
            iterate 60 (all_goals (try conv => whnf); all_goals (try first | with_reducible refine brY (by assumption) ?_ | with_reducible refine brN (by assumption) ?_ | (with_reducible refine brT ?_ ?_; · (simp only [Bool.and_eq_true, Bool.not_eq_true', decide_eq_true_eq, decide_eq_false_iff_not, beq_iff_eq, beq_eq_false_iff_ne, ne_eq] at *; omega)) | with_reducible refine br (fun _ => ?_) (fun _ => ?_) | with_reducible refine ⟨rfl, ?_⟩ | with_reducible refine ARound.succ ?_ | with_reducible refine PCall.call (cu) ?_ | (refine readP_run (v := byS (bk b i)) rfl (bk_get b i) ?_) | (refine readP_of ?_) | (refine bytesK_run (s := [bk b i]) ?_) | (refine allLtK_of (lt_one rfl) ?_)))
            exact ⟨⟨i + 1, hil⟩, by dsimp only; omega, by rw [es, e7], rfl⟩
          · have hkk : ((L.getD (i : Int).toNat tnull).1.k == 1) = false := by rw [et, beq_eq_false_iff_ne]; exact hk
            have k1 : decide ((toldU s L (bk b) i).length + (List.take (((L.getD (IntKind.i64.wrap ((i : Int) + 1)).toNat tnull).2 : Int).toNat - ((L.getD (i : Int).toNat tnull).2 : Int).toNat) (List.drop ((L.getD (i : Int).toNat tnull).2 : Int).toNat s)).length ≤ 9223372036854775807) = true := decide_eq_true (by rw [ow]; omega)
            have k2 : decide ((toldU s L (bk b) i ++ List.take (((L.getD (IntKind.i64.wrap ((i : Int) + 1)).toNat tnull).2 : Int).toNat - ((L.getD (i : Int).toNat tnull).2 : Int).toNat) (List.drop ((L.getD (i : Int).toNat tnull).2 : Int).toNat s)).length + [bk b i].length ≤ 9223372036854775807) = true := decide_eq_true (by rw [ow, List.length_append, List.length_singleton]; omega)
            have es : toldU s L (bk b) (i + 1) = toldU s L (bk b) i ++ List.take (((L.getD (IntKind.i64.wrap ((i : Int) + 1)).toNat tnull).2 : Int).toNat - ((L.getD (i : Int).toNat tnull).2 : Int).toNat) (List.drop ((L.getD (i : Int).toNat tnull).2 : Int).toNat s) ++ [bk b i] := by rw [ow]; exact congrArg (fun z => toldU s L (bk b) i ++ z ++ [bk b i]) (if_neg hk)
            iterate 60 (all_goals (try conv => whnf); all_goals (try first | with_reducible refine brY (by assumption) ?_ | with_reducible refine brN (by assumption) ?_ | (with_reducible refine brT ?_ ?_; · (simp only [Bool.and_eq_true, Bool.not_eq_true', decide_eq_true_eq, decide_eq_false_iff_not, beq_iff_eq, beq_eq_false_iff_ne, ne_eq] at *; omega)) | with_reducible refine br (fun _ => ?_) (fun _ => ?_) | with_reducible refine ⟨rfl, ?_⟩ | with_reducible refine ARound.succ ?_ | (refine readP_run (v := byS (bk b i)) rfl (bk_get b i) ?_) | (refine readP_of ?_) | (refine bytesK_run (s := [bk b i]) ?_) | (refine allLtK_of (lt_one rfl) ?_)))
            exact ⟨⟨i + 1, hil⟩, by dsimp only; omega, by rw [es, e7], rfl⟩
        · have hd2 : decide (IntKind.i64.wrap ((i : Int) + 1) < (L.length : Int)) = false := decide_eq_false (by rw [e7]; omega)
          have gj : s.length = toP L (i + 1) s.length := by unfold toP; rw [List.getElem?_eq_none (by omega)]
          have hb3 : (decide (0 ≤ ((L.getD (i : Int).toNat tnull).2 : Int)) && decide (((L.getD (i : Int).toNat tnull).2 : Int) ≤ (s.length : Int)) && decide ((s.length : Int) ≤ (s.length : Int))) = true := by
            rw [gi]; simp only [Bool.and_eq_true, decide_eq_true_eq]; omega
          have ow : List.take ((s.length : Int).toNat - ((L.getD (i : Int).toNat tnull).2 : Int).toNat) (List.drop ((L.getD (i : Int).toNat tnull).2 : Int).toNat s) = ownL s L i := by
            rw [gi, Int.toNat_natCast, Int.toNat_natCast]
            unfold ownL
            rw [← gj]
          by_cases hk : (L.getD i tnull).1.k = 1
          · have hkk : ((L.getD (i : Int).toNat tnull).1.k == 1) = true := by rw [et]; simpa using hk
            have cu : PCall Tryd.prog 7 [.str (List.take ((s.length : Int).toNat - ((L.getD (i : Int).toNat tnull).2 : Int).toNat) (List.drop ((L.getD (i : Int).toNat tnull).2 : Int).toNat s))] (.str ((ownL s L i).map upB)) := by rw [ow]; exact toUpper_any (s := ownL s L i) (by omega) (own_ascii hX hil hk)
            have k1 : decide ((toldU s L (bk b) i).length + ((ownL s L i).map upB).length ≤ 9223372036854775807) = true := decide_eq_true (by rw [List.length_map]; omega)
            have k2 : decide ((toldU s L (bk b) i ++ (ownL s L i).map upB).length + [bk b i].length ≤ 9223372036854775807) = true := decide_eq_true (by rw [List.length_append, List.length_map, List.length_singleton]; omega)
            have es : toldU s L (bk b) (i + 1) = toldU s L (bk b) i ++ (ownL s L i).map upB ++ [bk b i] := congrArg (fun z => toldU s L (bk b) i ++ z ++ [bk b i]) (if_pos hk)
            iterate 60 (all_goals (try conv => whnf); all_goals (try first | with_reducible refine brY (by assumption) ?_ | with_reducible refine brN (by assumption) ?_ | (with_reducible refine brT ?_ ?_; · (simp only [Bool.and_eq_true, Bool.not_eq_true', decide_eq_true_eq, decide_eq_false_iff_not, beq_iff_eq, beq_eq_false_iff_ne, ne_eq] at *; omega)) | with_reducible refine br (fun _ => ?_) (fun _ => ?_) | with_reducible refine ⟨rfl, ?_⟩ | with_reducible refine ARound.succ ?_ | with_reducible refine PCall.call (cu) ?_ | (refine readP_run (v := byS (bk b i)) rfl (bk_get b i) ?_) | (refine readP_of ?_) | (refine bytesK_run (s := [bk b i]) ?_) | (refine allLtK_of (lt_one rfl) ?_)))
            exact ⟨⟨i + 1, hil⟩, by dsimp only; omega, by rw [es, e7], rfl⟩
          · have hkk : ((L.getD (i : Int).toNat tnull).1.k == 1) = false := by rw [et, beq_eq_false_iff_ne]; exact hk
            have k1 : decide ((toldU s L (bk b) i).length + (List.take ((s.length : Int).toNat - ((L.getD (i : Int).toNat tnull).2 : Int).toNat) (List.drop ((L.getD (i : Int).toNat tnull).2 : Int).toNat s)).length ≤ 9223372036854775807) = true := decide_eq_true (by rw [ow]; omega)
            have k2 : decide ((toldU s L (bk b) i ++ List.take ((s.length : Int).toNat - ((L.getD (i : Int).toNat tnull).2 : Int).toNat) (List.drop ((L.getD (i : Int).toNat tnull).2 : Int).toNat s)).length + [bk b i].length ≤ 9223372036854775807) = true := decide_eq_true (by rw [ow, List.length_append, List.length_singleton]; omega)
            have es : toldU s L (bk b) (i + 1) = toldU s L (bk b) i ++ List.take ((s.length : Int).toNat - ((L.getD (i : Int).toNat tnull).2 : Int).toNat) (List.drop ((L.getD (i : Int).toNat tnull).2 : Int).toNat s) ++ [bk b i] := by rw [ow]; exact congrArg (fun z => toldU s L (bk b) i ++ z ++ [bk b i]) (if_neg hk)
            iterate 60 (all_goals (try conv => whnf); all_goals (try first | with_reducible refine brY (by assumption) ?_ | with_reducible refine brN (by assumption) ?_ | (with_reducible refine brT ?_ ?_; · (simp only [Bool.and_eq_true, Bool.not_eq_true', decide_eq_true_eq, decide_eq_false_iff_not, beq_iff_eq, beq_eq_false_iff_ne, ne_eq] at *; omega)) | with_reducible refine br (fun _ => ?_) (fun _ => ?_) | with_reducible refine ⟨rfl, ?_⟩ | with_reducible refine ARound.succ ?_ | (refine readP_run (v := byS (bk b i)) rfl (bk_get b i) ?_) | (refine readP_of ?_) | (refine bytesK_run (s := [bk b i]) ?_) | (refine allLtK_of (lt_one rfl) ?_)))
            exact ⟨⟨i + 1, hil⟩, by dsimp only; omega, by rw [es, e7], rfl⟩
      · have hd : decide ((i : Int) < (L.length : Int)) = false := decide_eq_false (by omega)
        obtain rfl : i = L.length := by omega
        obtain ⟨m, hm1, hm2⟩ := told_lex (bk := bk b) hX (bk_blank b)
        have hlm := lex_any (s := toldU s L (bk b) L.length) (by have : toP L L.length s.length = s.length := (by unfold toP; simp); omega)
        have hml : m.length = L.length := by have := congrArg List.length hm2; simpa using this
        rw [hm1] at hlm
        obtain ⟨y, m', rfl⟩ : ∃ y m', m = y :: m' := by
          cases m with
          | nil => simp at hml; omega
          | cons y m' => exact ⟨y, m', rfl⟩
        have p1 := placed_any (l := L) (by omega)
        have p2 := placed_any (l := y :: m') (by omega)
        rw [hm2] at p2
        have p3 := same_T (l := at0 (L.map (·.1))) (by unfold at0; simp; omega)
        iterate 30 (all_goals (try conv => whnf); all_goals (try first | with_reducible refine brY (by assumption) ?_ | with_reducible refine brN (by assumption) ?_ | (with_reducible refine brT ?_ ?_; · (simp only [Bool.and_eq_true, Bool.not_eq_true', decide_eq_true_eq, decide_eq_false_iff_not, beq_iff_eq, beq_eq_false_iff_ne, ne_eq] at *; omega)) | with_reducible refine br (fun _ => ?_) (fun _ => ?_) | with_reducible refine ⟨rfl, ?_⟩ | with_reducible refine ARound.succ ?_ | with_reducible refine PCall.call (hlm) ?_ | with_reducible refine PCall.call (p1) ?_ | with_reducible refine PCall.call (p2) ?_ | with_reducible refine PCall.call (p3) ?_ | (refine readP_of ?_)))
        exact leaf rfl (.bool _)
end Go.Proofs.YtlhpbcbkkbjhoaaDoor
namespace Go.Proofs.YtlhpbcbkkbjhoaaDoor
open Ab Go.RowKit
set_option linter.unusedVariables false
theorem i64_in {n : Int} (h : IntKind.i64.min ≤ n ∧ n ≤ IntKind.i64.max) : -9223372036854775808 ≤ n ∧ n ≤ 9223372036854775807 := by
  have e1 : IntKind.i64.min = -9223372036854775808 := by decide
  have e2 : IntKind.i64.max = 9223372036854775807 := by decide
  omega
theorem u8_in {n : Int} (h : IntKind.u8.min ≤ n ∧ n ≤ IntKind.u8.max) : 0 ≤ n ∧ n ≤ 255 := by
  have e1 : IntKind.u8.min = 0 := by decide
  have e2 : IntKind.u8.max = 255 := by decide
  omega
theorem u64_in {n : Int} (h : IntKind.u64.min ≤ n ∧ n ≤ IntKind.u64.max) : 0 ≤ n ∧ n ≤ 18446744073709551615 := by
  have e1 : IntKind.u64.min = 0 := by decide
  have e2 : IntKind.u64.max = 18446744073709551615 := by decide
  omega
/-- The same values in other words, where they are as the type asks. -/
def mapOk {P : Program} {t : TypeId} {α β : Type} (r : Rd P t α) (g : α → β) (sv : β → List SV) (ok : β → Prop) (h1 : ∀ x, r.ok x → r.sv x = sv (g x)) (h2 : ∀ x, r.ok x → ok (g x)) (h3 : ∀ y, (sv y).length = r.sz) : Rd P t β where
  sv := sv
  ok := ok
  rich y := ∃ x, g x = y ∧ r.rich x
  sz := r.sz
  szof := r.szof
  len := h3
  rd h := by
    obtain ⟨x, hx, hw, hc⟩ := r.rd h
    exact ⟨g x, h2 x hx, fun h => ⟨x, rfl, hw h⟩, h1 x hx ▸ hc⟩
noncomputable def rdStr : Rd Tryd.prog 9 (List UInt8) := Rd.str Tryd.underlying9 (by kernel_rfl)
noncomputable def rdInt : Rd Tryd.prog 3 Int := (Rd.int (k := .i64) Tryd.underlying3 (by kernel_rfl)).map id (fun n => [.int .i64 n]) (fun n => -9223372036854775808 ≤ n ∧ n ≤ 9223372036854775807) (fun _ => rfl) (fun _ h => i64_in h) fun _ => rfl
theorem u64_sv {x : Int} (h : 0 ≤ x ∧ x ≤ 18446744073709551615) : [SV.int .u64 x] = [SV.int .u64 ((x.toNat : Nat) : Int)] := by rw [Int.toNat_of_nonneg h.1]
theorem u64_nat {x : Int} (h : 0 ≤ x ∧ x ≤ 18446744073709551615) : x.toNat < 18446744073709551616 := by omega
noncomputable def rdU64 : Rd Tryd.prog 30 Nat := mapOk (Rd.int (k := .u64) Tryd.underlying30 (by kernel_rfl)) Int.toNat (fun n => [.int .u64 n]) (fun n => n < 18446744073709551616)
  (fun _ h => u64_sv (u64_in h)) (fun _ h => u64_nat (u64_in h)) fun _ => rfl
noncomputable def rdTk : Rd Tryd.prog 29 Int := (Rd.int (k := .u8) Tryd.underlying29 (by kernel_rfl)).map id (fun n => [.int .u8 n]) (fun n => 0 ≤ n ∧ n ≤ 255) (fun _ => rfl) (fun _ h => u8_in h) fun _ => rfl
/-- A token as it may come in. -/
def InT (x : TI) : Prop := (0 ≤ x.1.k ∧ x.1.k ≤ 255) ∧ x.1.n < 18446744073709551616 ∧ x.1.t.length ≤ 9223372036854775807
noncomputable def rdToken : Rd Tryd.prog 32 TI :=
  (Rd.struct Tryd.underlying32 (.cons rdTk rfl (.cons rdStr rfl (.cons rdU64 rfl (.cons rdInt rfl .nil)))) (by kernel_rfl)).map (fun x => (⟨x.1, x.2.1, x.2.2.1⟩, x.2.2.2.1)) (fun v => [.int .u8 v.1.k, .str v.1.t, .int .u64 v.1.n, .int .i64 v.2]) InT (fun _ => rfl) (fun _ h => ⟨h.1, h.2.2.1, h.2.1⟩) fun _ => rfl
@[reducible] noncomputable def rdTokens : Rd Tryd.prog 23 (List TI) := Rd.slice Tryd.underlying23 (by kernel_rfl) rdToken (by decide) tokI (fun _ => rfl) inull
end Go.Proofs.YtlhpbcbkkbjhoaaDoor
