/- enc.After, enc.In: contracts. -/
import Derived.Test.YtcklfcagailoiaaDoorCE
import Derived.Test.YtcklfcagailoiaaDoorEp1
import Derived.Test.YtcklfcagailoiaaDoorEh
namespace Go.Proofs.YtcklfcagailoiaaDoor
open Ab
set_option maxRecDepth 100000
set_option linter.unusedVariables false
set_option linter.unusedSimpArgs false
structure AftS (s : List UInt8) where
  n : Nat
  hn : n ≤ s.length
  he : afterR s = afterR (s.take n)
theorem after_any {s : List UInt8} (hs : s.length ≤ 9223372036854775807) : PCall Tryd.prog 17 [.str s] (.str (afterR s)) := by
  refine pcall_of (lits1 (.str _)) (call17 rfl ?_)
  iterate 1 (all_goals (try conv => whnf); all_goals (try first | with_reducible refine brY (by assumption) ?_ | with_reducible refine brN (by assumption) ?_ | (with_reducible refine brT ?_ ?_; · (simp only [Bool.and_eq_true, Bool.not_eq_true', decide_eq_true_eq, decide_eq_false_iff_not, beq_iff_eq, beq_eq_false_iff_ne, ne_eq] at *; omega)) | with_reducible refine br (fun _ => ?_) (fun _ => ?_) | with_reducible refine ⟨rfl, ?_⟩ | with_reducible refine ARound.succ ?_))
  refine loop_ind (σ := AftS s) (fun q => [(0, SV.str s), (2, SV.str []), (3, SV.int IntKind.i64 q.n)]) (fun _ => ⟨0, []⟩) (fun q => q.n) ?_ ⟨s.length, Nat.le_refl _, by rw [List.take_length]⟩
  rintro ⟨n, hn, he⟩
  dsimp only
  by_cases h0 : n = 0
  · subst h0
    iterate 3 (all_goals (try conv => whnf); all_goals (try first | with_reducible refine brY (by assumption) ?_ | with_reducible refine brN (by assumption) ?_ | (with_reducible refine brT ?_ ?_; · (simp only [Bool.and_eq_true, Bool.not_eq_true', decide_eq_true_eq, decide_eq_false_iff_not, beq_iff_eq, beq_eq_false_iff_ne, ne_eq] at *; omega)) | with_reducible refine br (fun _ => ?_) (fun _ => ?_) | with_reducible refine ⟨rfl, ?_⟩ | with_reducible refine ARound.succ ?_))
    refine leaf ?_ (.str _)
    rw [he]; rfl
  have e1 : IntKind.i64.wrap ((n : Int) - 1) = ((n - 1 : Nat) : Int) := w64sub (by omega) (by omega)
  have et := take_succ_getD (s := s) (n := n - 1) (by omega)
  rw [show n - 1 + 1 = n by omega] at et
  rw [et, afterR_snoc] at he
  iterate 10 (all_goals (try conv => whnf); all_goals (try first | with_reducible refine brY (by assumption) ?_ | with_reducible refine brN (by assumption) ?_ | (with_reducible refine brT ?_ ?_; · (simp only [Bool.and_eq_true, Bool.not_eq_true', decide_eq_true_eq, decide_eq_false_iff_not, beq_iff_eq, beq_eq_false_iff_ne, ne_eq] at *; omega)) | with_reducible refine br (fun _ => ?_) (fun _ => ?_) | with_reducible refine ⟨rfl, ?_⟩ | with_reducible refine ARound.succ ?_))
  all_goals simp only [e1, Int.toNat_natCast, Int.toNat_zero, Nat.sub_zero, List.drop_zero, Bool.and_eq_true, Bool.and_eq_false_iff, decide_eq_true_eq, decide_eq_false_iff_not, List.length_take, List.length_singleton] at *
  · rename_i h2 h3
    have h5 : s.getD (n - 1) 0 < 255 := u8_lt_iff.2 (by have : (255 : UInt8).toNat = 255 := rfl; omega)
    refine leaf ?_ (.str _)
    rw [he, if_pos h5, u8_succ h5]
  · omega
  · rename_i h3
    have h5 : ¬ s.getD (n - 1) 0 < 255 := fun h => h3 (by have h := u8_lt_iff.1 h; have : (255 : UInt8).toNat = 255 := rfl; omega)
    exact ⟨⟨n - 1, by omega, by rw [he, if_neg h5]⟩, by dsimp only; omega, rfl, trivial⟩
  · omega
theorem in_any (k a b : List UInt8) : PCall Tryd.prog 18 [.str k, .agg [.str a, .str b]] (.bool (inB k a b)) := by
  refine pcall_of (lits2 (.str _) (.agg (by simp; exact ⟨.str _, .str _⟩))) (call18 rfl ?_)
  iterate 10 (all_goals (try conv => whnf); all_goals (try first | with_reducible refine brY (by assumption) ?_ | with_reducible refine brN (by assumption) ?_ | (with_reducible refine brT ?_ ?_; · (simp only [Bool.and_eq_true, Bool.not_eq_true', decide_eq_true_eq, decide_eq_false_iff_not, beq_iff_eq, beq_eq_false_iff_ne, ne_eq] at *; omega)) | with_reducible refine br (fun _ => ?_) (fun _ => ?_) | with_reducible refine ⟨rfl, ?_⟩ | with_reducible refine ARound.succ ?_))
  · rename_i h1 h2
    exact leaf (by unfold inB strLess at *; rw [h1, h2]; rfl) (.bool _)
  · rename_i h1 h2
    exact leaf (by unfold inB strLess at *; rw [h1, h2]; simp) (.bool _)
  · rename_i h1
    exact leaf (by unfold inB strLess at *; rw [h1]; rfl) (.bool _)
end Go.Proofs.YtcklfcagailoiaaDoor
