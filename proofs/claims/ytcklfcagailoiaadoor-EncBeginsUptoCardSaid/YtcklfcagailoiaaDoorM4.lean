/- Parts of the proof of PBegins, one behind the other. -/
import Derived.Test.YtcklfcagailoiaaDoorM3
import Derived.Test.YtcklfcagailoiaaDoorCEM
import Derived.Test.YtcklfcagailoiaaDoorM2
import Derived.Test.YtcklfcagailoiaaDoorProg
import Derived.KernelRfl
namespace Go.Proofs.YtcklfcagailoiaaDoor
open Ab Go.RowKit
set_option maxRecDepth 100000
set_option linter.unusedVariables false
set_option linter.unusedSimpArgs false
set_option pp.maxSteps 3000
theorem stampY {w l g : Int} (h : stOk w l g = true) : PCall Tryd.prog 29 [stV w l g] (.tup [.str (stT w l g), .int .i64 0]) := by
  have := stampS_any w l g; simpa [h] using this
theorem stampN {w l g : Int} (h : stOk w l g = false) : PCall Tryd.prog 29 [stV w l g] (.tup [.str [], .int .i64 2]) := by
  have := stampS_any w l g; simpa [h] using this
theorem unstampY {s : List UInt8} (h : unOk s = true) : PCall Tryd.prog 30 [.str s] (.tup [stV (unW s) (unL s) (unG s), .int .i64 0]) := by
  have := unstamp_any s; rwa [unV_yes h] at this
theorem unstampN {s : List UInt8} (h : unOk s = false) : PCall Tryd.prog 30 [.str s] (.tup [stV 0 0 0, .int .i64 5]) := by
  have := unstamp_any s; rwa [unV_no h] at this
section
variable {w l g w' l' g' : Int} {s : List UInt8}
theorem unstampT (h : stOk w l g = true) : PCall Tryd.prog 30 [.str (stT w l g)] (.tup [stV w l g, .int .i64 0]) := by
  obtain ⟨h1, h2, h3, h4⟩ := un_stT h
  have := unstampY h1
  rwa [h2, h3, h4] at this
theorem stampU (h : unOk s = true) : PCall Tryd.prog 29 [stV (unW s) (unL s) (unG s)] (.tup [.str s, .int .i64 0]) := by
  obtain ⟨h1, h2⟩ := stT_un h
  have := stampY h1
  rwa [h2] at this
theorem encStamps_run {ta tb : List UInt8} {ea eb : Int} (c1 : PCall Tryd.prog 29 [stV w l g] (.tup [.str ta, .int .i64 ea])) (c2 : PCall Tryd.prog 29 [stV w' l' g'] (.tup [.str tb, .int .i64 eb]))
    (hab : ea ≠ 0 ∨ eb ≠ 0 ∨ (PCall Tryd.prog 30 [.str ta] (.tup [stV w l g, .int .i64 0]) ∧ ta.length = 16 ∧ laterB w l g w' l' g' = strLess ta tb ∧ (w == w' && (l == l' && g == g')) = (ta == tb))) :
    PCall Tryd.prog 7 [stV w l g, stV w' l' g', .str s] (.bool true) := by
  refine pcall_of (lits3 (stLit _ _ _) (stLit _ _ _) (.str _)) (call7 rfl ?_)
  cases hu : unOk s
  · have u := unstampN hu
    by_cases ha : ea = 0 ∧ eb = 0
    · obtain ⟨rfl, rfl⟩ := ha
      rcases hab with h | h | ⟨h1, h2, h3, h4⟩
      · exact absurd rfl h
      · exact absurd rfl h
      iterate 34 (all_goals (try conv => whnf); all_goals (try first | with_reducible refine brY (by assumption) ?_ | with_reducible refine brN (by assumption) ?_ | (with_reducible refine brT ?_ ?_; · (simp only [Bool.and_eq_true, Bool.not_eq_true', decide_eq_true_eq, decide_eq_false_iff_not, beq_iff_eq, beq_eq_false_iff_ne, ne_eq] at *; omega)) | with_reducible refine br (fun _ => ?_) (fun _ => ?_) | with_reducible refine ⟨rfl, ?_⟩ | with_reducible refine ARound.succ ?_ | with_reducible refine PCall.call (c1) ?_ | with_reducible refine PCall.call (c2) ?_ | with_reducible refine PCall.call (lives_any) ?_ | with_reducible refine PCall.call (u) ?_ | with_reducible refine PCall.call (h1) ?_ | with_reducible refine PCall.call (later_any _ _ _ _ _ _) ?_))
      all_goals first
        | exact leaf rfl (.bool _)
        | (exfalso; simp_all; done)
        | (refine leaf ?_ (.bool _); simp [h4]; done)
    · clear hab
      iterate 34 (all_goals (try conv => whnf); all_goals (try first | with_reducible refine brY (by assumption) ?_ | with_reducible refine brN (by assumption) ?_ | (with_reducible refine brT ?_ ?_; · (simp only [Bool.and_eq_true, Bool.not_eq_true', decide_eq_true_eq, decide_eq_false_iff_not, beq_iff_eq, beq_eq_false_iff_ne, ne_eq] at *; omega)) | with_reducible refine br (fun _ => ?_) (fun _ => ?_) | with_reducible refine ⟨rfl, ?_⟩ | with_reducible refine ARound.succ ?_ | with_reducible refine PCall.call (c1) ?_ | with_reducible refine PCall.call (c2) ?_ | with_reducible refine PCall.call (lives_any) ?_ | with_reducible refine PCall.call (u) ?_))
      all_goals first
        | exact leaf rfl (.bool _)
        | (exfalso; simp_all; done)
  · have u := unstampY hu
    have u2 := stampU hu
    by_cases ha : ea = 0 ∧ eb = 0
    · obtain ⟨rfl, rfl⟩ := ha
      rcases hab with h | h | ⟨h1, h2, h3, h4⟩
      · exact absurd rfl h
      · exact absurd rfl h
      iterate 34 (all_goals (try conv => whnf); all_goals (try first | with_reducible refine brY (by assumption) ?_ | with_reducible refine brN (by assumption) ?_ | (with_reducible refine brT ?_ ?_; · (simp only [Bool.and_eq_true, Bool.not_eq_true', decide_eq_true_eq, decide_eq_false_iff_not, beq_iff_eq, beq_eq_false_iff_ne, ne_eq] at *; omega)) | with_reducible refine br (fun _ => ?_) (fun _ => ?_) | with_reducible refine ⟨rfl, ?_⟩ | with_reducible refine ARound.succ ?_ | with_reducible refine PCall.call (c1) ?_ | with_reducible refine PCall.call (c2) ?_ | with_reducible refine PCall.call (lives_any) ?_ | with_reducible refine PCall.call (u) ?_ | with_reducible refine PCall.call (u2) ?_ | with_reducible refine PCall.call (h1) ?_ | with_reducible refine PCall.call (later_any _ _ _ _ _ _) ?_))
      all_goals first
        | exact leaf rfl (.bool _)
        | (exfalso; simp_all; done)
        | (refine leaf ?_ (.bool _); simp [h4]; done)
    · clear hab
      iterate 34 (all_goals (try conv => whnf); all_goals (try first | with_reducible refine brY (by assumption) ?_ | with_reducible refine brN (by assumption) ?_ | (with_reducible refine brT ?_ ?_; · (simp only [Bool.and_eq_true, Bool.not_eq_true', decide_eq_true_eq, decide_eq_false_iff_not, beq_iff_eq, beq_eq_false_iff_ne, ne_eq] at *; omega)) | with_reducible refine br (fun _ => ?_) (fun _ => ?_) | with_reducible refine ⟨rfl, ?_⟩ | with_reducible refine ARound.succ ?_ | with_reducible refine PCall.call (c1) ?_ | with_reducible refine PCall.call (c2) ?_ | with_reducible refine PCall.call (lives_any) ?_ | with_reducible refine PCall.call (u) ?_ | with_reducible refine PCall.call (u2) ?_))
      all_goals first
        | exact leaf rfl (.bool _)
        | (exfalso; simp_all; done)
theorem encStamps_any : PCall Tryd.prog 7 [stV w l g, stV w' l' g', .str s] (.bool true) := by
  cases h : stOk w l g
  · exact encStamps_run (stampS_any w l g) (stampS_any w' l' g') (.inl (by simp [h]))
  cases h' : stOk w' l' g'
  · exact encStamps_run (stampS_any w l g) (stampS_any w' l' g') (.inr (.inl (by simp [h'])))
  · exact encStamps_run (stampY h) (stampY h') (.inr (.inr ⟨unstampT h, stT_len _ _ _, (less_stT h h').symm, (same_stT h h').symm⟩))
end
end Go.Proofs.YtcklfcagailoiaaDoor
namespace Go.Proofs.YtcklfcagailoiaaDoor
open Ab
set_option maxRecDepth 100000
set_option linter.unusedVariables false
set_option linter.unusedSimpArgs false
structure AftS (s : List UInt8) where
  n : Nat
  hn : n ≤ s.length
  he : afterR s = afterR (s.take n)
theorem after_any {s : List UInt8} (hs : s.length ≤ 9223372036854775807) : PCall Tryd.prog 17 [.str s] (.str (afterR s)) := by
  refine pcall_of (lits1 (.str _)) (call17 rfl ?_)
  iterate 1 (all_goals (try conv => whnf); all_goals (try first | with_reducible refine brY (by assumption) ?_ | with_reducible refine brN (by assumption) ?_ | (with_reducible refine brT ?_ ?_; · (simp only [Bool.and_eq_true, Bool.not_eq_true', decide_eq_true_eq, decide_eq_false_iff_not, beq_iff_eq, beq_eq_false_iff_ne, ne_eq] at *; omega)) | with_reducible refine br (fun _ => ?_) (fun _ => ?_) | with_reducible refine ⟨rfl, ?_⟩ | with_reducible refine ARound.succ ?_))
  refine loop_ind (σ := AftS s) (fun q => [(0, SV.str s), (2, SV.str []), (3, SV.int IntKind.i64 q.n)]) (fun _ => ⟨0, []⟩) (fun q => q.n) ?_ ⟨s.length, Nat.le_refl _, by rw [List.take_length]⟩
  rintro ⟨n, hn, he⟩
  dsimp only
  by_cases h0 : n = 0
  · subst h0
    iterate 3 (all_goals (try conv => whnf); all_goals (try first | with_reducible refine brY (by assumption) ?_ | with_reducible refine brN (by assumption) ?_ | (with_reducible refine brT ?_ ?_; · (simp only [Bool.and_eq_true, Bool.not_eq_true', decide_eq_true_eq, decide_eq_false_iff_not, beq_iff_eq, beq_eq_false_iff_ne, ne_eq] at *; omega)) | with_reducible refine br (fun _ => ?_) (fun _ => ?_) | with_reducible refine ⟨rfl, ?_⟩ | with_reducible refine ARound.succ ?_))
    refine leaf ?_ (.str _)
    rw [he]; rfl
  have e1 : IntKind.i64.wrap ((n : Int) - 1) = ((n - 1 : Nat) : Int) := w64sub (by omega) (by omega)
  have et := take_succ_getD (s := s) (n := n - 1) (by omega)
  rw [show n - 1 + 1 = n by omega] at et
  rw [et, afterR_snoc] at he
  iterate 10 (all_goals (try conv => whnf); all_goals (try first | with_reducible refine brY (by assumption) ?_ | with_reducible refine brN (by assumption) ?_ | (with_reducible refine brT ?_ ?_; · (simp only [Bool.and_eq_true, Bool.not_eq_true', decide_eq_true_eq, decide_eq_false_iff_not, beq_iff_eq, beq_eq_false_iff_ne, ne_eq] at *; omega)) | with_reducible refine br (fun _ => ?_) (fun _ => ?_) | with_reducible refine ⟨rfl, ?_⟩ | with_reducible refine ARound.succ ?_))
  all_goals simp only [e1, Int.toNat_natCast, Int.toNat_zero, Nat.sub_zero, List.drop_zero, Bool.and_eq_true, Bool.and_eq_false_iff, decide_eq_true_eq, decide_eq_false_iff_not, List.length_take, List.length_singleton] at *
  · rename_i h2 h3
    have h5 : s.getD (n - 1) 0 < 255 := u8_lt_iff.2 (by have : (255 : UInt8).toNat = 255 := rfl; omega)
    refine leaf ?_ (.str _)
    rw [he, if_pos h5, u8_succ h5]
  · omega
  · rename_i h3
    have h5 : ¬ s.getD (n - 1) 0 < 255 := fun h => h3 (by have h := u8_lt_iff.1 h; have : (255 : UInt8).toNat = 255 := rfl; omega)
    exact ⟨⟨n - 1, by omega, by rw [he, if_neg h5]⟩, by dsimp only; omega, rfl, trivial⟩
  · omega
theorem in_any (k a b : List UInt8) : PCall Tryd.prog 18 [.str k, .agg [.str a, .str b]] (.bool (inB k a b)) := by
  refine pcall_of (lits2 (.str _) (.agg (by simp; exact ⟨.str _, .str _⟩))) (call18 rfl ?_)
  iterate 10 (all_goals (try conv => whnf); all_goals (try first | with_reducible refine brY (by assumption) ?_ | with_reducible refine brN (by assumption) ?_ | (with_reducible refine brT ?_ ?_; · (simp only [Bool.and_eq_true, Bool.not_eq_true', decide_eq_true_eq, decide_eq_false_iff_not, beq_iff_eq, beq_eq_false_iff_ne, ne_eq] at *; omega)) | with_reducible refine br (fun _ => ?_) (fun _ => ?_) | with_reducible refine ⟨rfl, ?_⟩ | with_reducible refine ARound.succ ?_))
  · rename_i h1 h2
    exact leaf (by unfold inB strLess at *; rw [h1, h2]; rfl) (.bool _)
  · rename_i h1 h2
    exact leaf (by unfold inB strLess at *; rw [h1, h2]; simp) (.bool _)
  · rename_i h1
    exact leaf (by unfold inB strLess at *; rw [h1]; rfl) (.bool _)
end Go.Proofs.YtcklfcagailoiaaDoor
namespace Go.Proofs.YtcklfcagailoiaaDoor
open Ab Go.RowKit
set_option maxRecDepth 100000
set_option linter.unusedVariables false
set_option linter.unusedSimpArgs false
set_option pp.maxSteps 3000
theorem refIn_any (k a b : List UInt8) : PCall Tryd.prog 35 [.str k, .agg [.str a, .str b]] (.bool (inB k a b)) := by
  refine pcall_of (lits2 (.str _) (.agg (by simp; exact ⟨.str _, .str _⟩))) (call35 rfl ?_)
  iterate 10 (all_goals (try conv => whnf); all_goals (try first | with_reducible refine brY (by assumption) ?_ | with_reducible refine brN (by assumption) ?_ | (with_reducible refine brT ?_ ?_; · (simp only [Bool.and_eq_true, Bool.not_eq_true', decide_eq_true_eq, decide_eq_false_iff_not, beq_iff_eq, beq_eq_false_iff_ne, ne_eq] at *; omega)) | with_reducible refine br (fun _ => ?_) (fun _ => ?_) | with_reducible refine ⟨rfl, ?_⟩ | with_reducible refine ARound.succ ?_))
  · rename_i h1 h2
    exact leaf (by unfold inB strLess at *; rw [h1, h2]; rfl) (.bool _)
  · rename_i h1 h2
    exact leaf (by unfold inB strLess at *; rw [h1, h2]; simp) (.bool _)
  · rename_i h1
    exact leaf (by unfold inB strLess at *; rw [h1]; rfl) (.bool _)
theorem refLater_any (w l g w' l' g' : Int) : PCall Tryd.prog 36 [stV w l g, stV w' l' g'] (.bool (laterB w l g w' l' g')) := by
  refine pcall_of (lits2 (stLit _ _ _) (stLit _ _ _)) (call36 rfl ?_)
  iterate 10 (all_goals (try conv => whnf); all_goals (try first | with_reducible refine brY (by assumption) ?_ | with_reducible refine brN (by assumption) ?_ | (with_reducible refine brT ?_ ?_; · (simp only [Bool.and_eq_true, Bool.not_eq_true', decide_eq_true_eq, decide_eq_false_iff_not, beq_iff_eq, beq_eq_false_iff_ne, ne_eq] at *; omega)) | with_reducible refine br (fun _ => ?_) (fun _ => ?_) | with_reducible refine ⟨rfl, ?_⟩ | with_reducible refine ARound.succ ?_))
  all_goals (refine leaf ?_ (.bool _); congr 1; unfold laterB or3 cmpI; symm)
  all_goals simp only [bne_iff_ne, ne_eq, bne_eq_false_iff_eq] at *
  all_goals first
    | (rw [decide_eq_decide]; split <;> (try split) <;> (try split) <;> (try split) <;> (try split) <;> (try split) <;> omega)
theorem refAfter_any {s : List UInt8} (hs : s.length ≤ 9223372036854775807) : PCall Tryd.prog 34 [.str s] (.str (afterR s)) := by
  refine pcall_of (lits1 (.str _)) (call34 rfl ?_)
  iterate 1 (all_goals (try conv => whnf); all_goals (try first | with_reducible refine brY (by assumption) ?_ | with_reducible refine brN (by assumption) ?_ | (with_reducible refine brT ?_ ?_; · (simp only [Bool.and_eq_true, Bool.not_eq_true', decide_eq_true_eq, decide_eq_false_iff_not, beq_iff_eq, beq_eq_false_iff_ne, ne_eq] at *; omega)) | with_reducible refine br (fun _ => ?_) (fun _ => ?_) | with_reducible refine ⟨rfl, ?_⟩ | with_reducible refine ARound.succ ?_))
  refine loop_ind (σ := AftS s) (fun q => [(0, SV.str s), (2, SV.str []), (3, SV.int IntKind.i64 q.n)]) (fun _ => ⟨0, []⟩) (fun q => q.n) ?_ ⟨s.length, Nat.le_refl _, by rw [List.take_length]⟩
  rintro ⟨n, hn, he⟩
  dsimp only
  by_cases h0 : n = 0
  · subst h0
    iterate 3 (all_goals (try conv => whnf); all_goals (try first | with_reducible refine brY (by assumption) ?_ | with_reducible refine brN (by assumption) ?_ | (with_reducible refine brT ?_ ?_; · (simp only [Bool.and_eq_true, Bool.not_eq_true', decide_eq_true_eq, decide_eq_false_iff_not, beq_iff_eq, beq_eq_false_iff_ne, ne_eq] at *; omega)) | with_reducible refine br (fun _ => ?_) (fun _ => ?_) | with_reducible refine ⟨rfl, ?_⟩ | with_reducible refine ARound.succ ?_))
    refine leaf ?_ (.str _)
    rw [he]; rfl
  have e1 : IntKind.i64.wrap ((n : Int) - 1) = ((n - 1 : Nat) : Int) := w64sub (by omega) (by omega)
  have et := take_succ_getD (s := s) (n := n - 1) (by omega)
  rw [show n - 1 + 1 = n by omega] at et
  rw [et, afterR_snoc] at he
  iterate 10 (all_goals (try conv => whnf); all_goals (try first | with_reducible refine brY (by assumption) ?_ | with_reducible refine brN (by assumption) ?_ | (with_reducible refine brT ?_ ?_; · (simp only [Bool.and_eq_true, Bool.not_eq_true', decide_eq_true_eq, decide_eq_false_iff_not, beq_iff_eq, beq_eq_false_iff_ne, ne_eq] at *; omega)) | with_reducible refine br (fun _ => ?_) (fun _ => ?_) | with_reducible refine ⟨rfl, ?_⟩ | with_reducible refine ARound.succ ?_))
  all_goals simp only [e1, Int.toNat_natCast, Int.toNat_zero, Nat.sub_zero, List.drop_zero, Bool.and_eq_true, Bool.and_eq_false_iff, decide_eq_true_eq, decide_eq_false_iff_not, List.length_take, List.length_singleton, beq_iff_eq, beq_eq_false_iff_ne, ne_eq] at *
  · rename_i h2 h3
    have h5 : ¬ s.getD (n - 1) 0 < 255 := fun h => by have h := u8_lt_iff.1 h; have : (255 : UInt8).toNat = 255 := rfl; omega
    exact ⟨⟨n - 1, by omega, by rw [he, if_neg h5]⟩, by dsimp only; omega, rfl, trivial⟩
  · omega
  · rename_i h2 h3 h4 h5
    have hb := (s.getD (n - 1) 0).toNat_lt
    have h5 : s.getD (n - 1) 0 < 255 := u8_lt_iff.2 (by have : (255 : UInt8).toNat = 255 := rfl; omega)
    refine leaf ?_ (.str _)
    rw [he, if_pos h5, u8_succ h5]
  · omega
  all_goals omega
theorem mul_add_by {x : Nat} (b : UInt8) (hx : x < 72057594037927936) : IntKind.u64.wrap (IntKind.u64.wrap ((x : Int) * 256) + IntKind.u64.wrap (b.toNat : Int)) = ((x * 256 + b.toNat : Nat) : Int) := by
  have hb := b.toNat_lt
  rw [wu64 (x := (x : Int) * 256) (by omega) (by omega), wu64 (x := (b.toNat : Int)) (by omega) (by omega), wu64 (by omega) (by omega)]
  omega
theorem refUnstamp_any (s : List UInt8) : PCall Tryd.prog 33 [.str s] (unV s) := by
  refine pcall_of (lits1 (.str _)) (call33 rfl ?_)
  by_cases h16 : ¬ s.length = 16
  · have hno : unOk s = false := by unfold unOk; simp [h16]
    have hb : ((s.length : Int) != 16) = true := by rw [bne_iff_ne]; omega
    iterate 6 (all_goals (try conv => whnf); all_goals (try first | with_reducible refine brY (by assumption) ?_ | with_reducible refine brN (by assumption) ?_ | (with_reducible refine brT ?_ ?_; · (simp only [Bool.and_eq_true, Bool.not_eq_true', decide_eq_true_eq, decide_eq_false_iff_not, beq_iff_eq, beq_eq_false_iff_ne, ne_eq] at *; omega)) | with_reducible refine br (fun _ => ?_) (fun _ => ?_) | with_reducible refine ⟨rfl, ?_⟩ | with_reducible refine ARound.succ ?_))
    exact leaf (unV_no hno).symm (unlit s)
  have h16 : s.length = 16 := by omega
  have hb : ((s.length : Int) != 16) = false := by rw [bne_eq_false_iff_eq]; omega
  have key : beV (s.take 8) ≤ 9223372036854775807 → beV ((s.drop 8).take 4) ≤ 2147483647 → beV ((s.drop 12).take 4) ≤ 2147483647 → unOk s = stOk (unW s) (unL s) (unG s) := fun a b c => by
    unfold unOk
    cases hk : stOk (unW s) (unL s) (unG s)
    · rw [decide_eq_false_iff_not]; rintro ⟨_, _, _, _, h⟩; exact Bool.noConfusion h
    · rw [decide_eq_true_eq]; exact ⟨h16, a, b, c, rfl⟩
  iterate 2 (all_goals (try conv => whnf); all_goals (try first | with_reducible refine brY (by assumption) ?_ | with_reducible refine brN (by assumption) ?_ | (with_reducible refine brT ?_ ?_; · (simp only [Bool.and_eq_true, Bool.not_eq_true', decide_eq_true_eq, decide_eq_false_iff_not, beq_iff_eq, beq_eq_false_iff_ne, ne_eq] at *; omega)) | with_reducible refine br (fun _ => ?_) (fun _ => ?_) | with_reducible refine ⟨rfl, ?_⟩ | with_reducible refine ARound.succ ?_))
  have p8 : (256 : Nat) ^ 8 = 18446744073709551616 := by decide
  have p7 : (256 : Nat) ^ 7 = 72057594037927936 := by decide
  have p4 : (256 : Nat) ^ 4 = 4294967296 := by decide
  refine loop_ind (σ := {k : Nat // k ≤ 8}) (fun q => [(0, SV.str s), (2, SV.ref 0 0 0 0), (3, SV.int IntKind.i64 0), (12, SV.bool false), (4, SV.int IntKind.u64 (beV (s.take q.1))), (5, SV.int IntKind.u64 0), (6, SV.int IntKind.u64 0), (7, SV.int IntKind.i64 q.1)])
    (fun _ => ⟨1, [(0, .vec 0 3 [.agg [.int .i64 0, .int .i32 0, .int .i32 0]] ⟨false, some 51⟩)]⟩) (fun q => 8 - q.1) ?_ ⟨0, Nat.zero_le _⟩
  rintro ⟨k, hk⟩
  dsimp only
  by_cases hk8 : k < 8
  · have hd : decide ((k : Int) < 8) = true := decide_eq_true (by omega)
    have hlt := beV_take_lt s k
    have hpk : 256 ^ k ≤ 256 ^ 7 := Nat.pow_le_pow_right (by decide) (by omega)
    have e2 := mul_add_by (x := beV (s.take k)) (s.getD k 0) (by omega)
    rw [← beV_take (by omega)] at e2
    have e3 : IntKind.i64.wrap ((k : Int) + 1) = ((k + 1 : Nat) : Int) := w64add (by omega)
    iterate 10 (all_goals (try conv => whnf); all_goals (try first | with_reducible refine brY (by assumption) ?_ | with_reducible refine brN (by assumption) ?_ | (with_reducible refine brT ?_ ?_; · (simp only [Bool.and_eq_true, Bool.not_eq_true', decide_eq_true_eq, decide_eq_false_iff_not, beq_iff_eq, beq_eq_false_iff_ne, ne_eq] at *; omega)) | with_reducible refine br (fun _ => ?_) (fun _ => ?_) | with_reducible refine ⟨rfl, ?_⟩ | with_reducible refine ARound.succ ?_))
    refine ⟨⟨k + 1, by omega⟩, by dsimp only; omega, ?_, rfl⟩
    rw [e3, Int.toNat_natCast, e2]
  have hk8 : k = 8 := by omega
  subst hk8
  have hd : decide (((8 : Nat) : Int) < 8) = false := by decide
  iterate 4 (all_goals (try conv => whnf); all_goals (try first | with_reducible refine brY (by assumption) ?_ | with_reducible refine brN (by assumption) ?_ | (with_reducible refine brT ?_ ?_; · (simp only [Bool.and_eq_true, Bool.not_eq_true', decide_eq_true_eq, decide_eq_false_iff_not, beq_iff_eq, beq_eq_false_iff_ne, ne_eq] at *; omega)) | with_reducible refine br (fun _ => ?_) (fun _ => ?_) | with_reducible refine ⟨rfl, ?_⟩ | with_reducible refine ARound.succ ?_))
  refine loop_ind (σ := {k : Nat // k ≤ 4}) (fun q => [(0, SV.str s), (2, SV.ref 0 0 0 0), (3, SV.int IntKind.i64 0), (12, SV.bool false), (4, SV.int IntKind.u64 (beV (s.take 8))), (5, SV.int IntKind.u64 (beV ((s.drop 8).take q.1))), (6, SV.int IntKind.u64 (beV ((s.drop 12).take q.1))), (7, SV.int IntKind.i64 ((8 : Nat) : Int)), (15, SV.bool false), (8, SV.int IntKind.i64 ((8 + q.1 : Nat) : Int))])
    (fun _ => ⟨1, [(0, .vec 0 3 [.agg [.int .i64 0, .int .i32 0, .int .i32 0]] ⟨false, some 51⟩)]⟩) (fun q => 4 - q.1) ?_ ⟨0, Nat.zero_le _⟩
  rintro ⟨k, hk⟩
  dsimp only
  by_cases hk4 : k < 4
  · have hd : decide (((8 + k : Nat) : Int) < 12) = true := decide_eq_true (by omega)
    have hpk : 256 ^ k ≤ 256 ^ 4 := Nat.pow_le_pow_right (by decide) (by omega)
    have hlt := beV_take_lt (s.drop 8) k
    have hlt' := beV_take_lt (s.drop 12) k
    have g1 : (s.drop 8).getD k 0 = s.getD (8 + k) 0 := by simp [List.getD]
    have g2 : (s.drop 12).getD k 0 = s.getD (12 + k) 0 := by simp [List.getD]
    have e2 := mul_add_by (x := beV ((s.drop 8).take k)) (s.getD (8 + k) 0) (by omega)
    rw [← g1, ← beV_take (by simp; omega), g1] at e2
    have e2' := mul_add_by (x := beV ((s.drop 12).take k)) (s.getD (12 + k) 0) (by omega)
    rw [← g2, ← beV_take (by simp; omega), g2] at e2'
    have e3 : IntKind.i64.wrap (((8 + k : Nat) : Int) + 1) = ((8 + (k + 1) : Nat) : Int) := w64add (by omega)
    have e4 : IntKind.i64.wrap (((8 + k : Nat) : Int) + 4) = ((12 + k : Nat) : Int) := by rw [w64 (by omega) (by omega)]; omega
    iterate 12 (all_goals (try conv => whnf); all_goals (try first | with_reducible refine brY (by assumption) ?_ | with_reducible refine brN (by assumption) ?_ | (with_reducible refine brT ?_ ?_; · (simp only [Bool.and_eq_true, Bool.not_eq_true', decide_eq_true_eq, decide_eq_false_iff_not, beq_iff_eq, beq_eq_false_iff_ne, ne_eq] at *; omega)) | with_reducible refine br (fun _ => ?_) (fun _ => ?_) | with_reducible refine ⟨rfl, ?_⟩ | with_reducible refine ARound.succ ?_))
    refine ⟨⟨k + 1, by omega⟩, by dsimp only; omega, ?_, rfl⟩
    rw [e3, e4, Int.toNat_natCast, Int.toNat_natCast, e2, e2']
  have hk4 : k = 4 := by omega
  subst hk4
  have hd : decide (((8 + 4 : Nat) : Int) < 12) = false := by decide
  have b1 := beV_take_lt s 8
  have b2 := beV_take_lt (s.drop 8) 4
  have b3 := beV_take_lt (s.drop 12) 4
  have uw' : ∀ x : Nat, x ≤ 9223372036854775807 → IntKind.i64.wrap (IntKind.u64.wrap (9223372036854775807 - (x : Int))) = 9223372036854775807 - (x : Int) := fun x h => by rw [wu64 (by omega) (by omega), w64 (by omega) (by omega)]
  have ul' : ∀ x : Nat, x ≤ 2147483647 → IntKind.i32.wrap (IntKind.u64.wrap (2147483647 - (x : Int))) = 2147483647 - (x : Int) := fun x h => by rw [wu64 (by omega) (by omega), IntKind.wrap_i32]; omega
  iterate 12 (all_goals (try conv => whnf); all_goals (try first | with_reducible refine brY (by assumption) ?_ | with_reducible refine brN (by assumption) ?_ | (with_reducible refine brT ?_ ?_; · (simp only [Bool.and_eq_true, Bool.not_eq_true', decide_eq_true_eq, decide_eq_false_iff_not, beq_iff_eq, beq_eq_false_iff_ne, ne_eq] at *; omega)) | with_reducible refine br (fun _ => ?_) (fun _ => ?_) | with_reducible refine ⟨rfl, ?_⟩ | with_reducible refine ARound.succ ?_))
  all_goals simp only [decide_eq_true_eq, decide_eq_false_iff_not] at *
  all_goals first
    | (refine leaf ((unV_no ?_).symm) (unlit s); unfold unOk; rw [decide_eq_false_iff_not]; omega)
    | skip
  all_goals have q1 := uw' (beV (s.take 8)) (by omega)
  all_goals have q2 := ul' (beV ((s.drop 8).take 4)) (by omega)
  all_goals have q3 := ul' (beV ((s.drop 12).take 4)) (by omega)
  all_goals have q4 := key (by omega) (by omega) (by omega)
  all_goals first
    | (refine leaf ((unV_no ?_).symm) (unlit s); rw [q4]; unfold stOk unW unL unG; rw [decide_eq_false_iff_not]; omega)
    | (rw [q1, q2, q3]; refine leaf ((unV_yes ?_).symm) (unlit s); rw [q4]; unfold stOk unW unL unG; rw [decide_eq_true_eq]; omega)
    | trace_state
end Go.Proofs.YtcklfcagailoiaaDoor
namespace Go.Proofs.YtcklfcagailoiaaDoor
open Ab Go.RowKit
set_option maxRecDepth 100000
set_option linter.unusedVariables false
set_option linter.unusedSimpArgs false
set_option pp.maxSteps 3000
theorem tabsE : TabsOk Tryd.prog [(70, t70)] := .cons tab70 .nil
/-- A byte of a number that the document's answer shifts. -/
theorem eight_a {x : Int} {o : AObj} {R : AEnd → Heap → Prop}
    (h : R (.ret (.sl 2 7 1 0 8 none)) ⟨10, [(9, .vec 0 1 [byE x 0] ⟨false, some 5⟩), (8, .vec 0 1 [byE x 8] ⟨false, some 5⟩), (7, .vec 0 1 [byE x 16] ⟨false, some 5⟩), (6, .vec 0 1 [byE x 24] ⟨false, some 5⟩), (5, .vec 0 1 [byE x 32] ⟨false, some 5⟩), (4, .vec 0 1 [byE x 40] ⟨false, some 5⟩), (3, .vec 0 1 [byE x 48] ⟨false, some 5⟩), (2, .vec 7 1 [byE x 56, byE x 48, byE x 40, byE x 32, byE x 24, byE x 16, byE x 8, byE x 0] ⟨true, some 5⟩), (1, .vec 0 1 [byE x 56] ⟨false, some 5⟩), (0, o)]⟩) :
    ACall Tryd.prog 70 [.int .u64 x] ⟨1, [(0, o)]⟩ R :=
  (lvl_sound mixed tabsE 30).1.call _ _ _ _ (Eq.mpr (show (lvl Tryd.prog [(70, t70)] 30).1.call 70 [.int .u64 x] ⟨1, [(0, o)]⟩ R = R (.ret (.sl 2 7 1 0 8 none)) ⟨10, [(9, .vec 0 1 [byE x 0] ⟨false, some 5⟩), (8, .vec 0 1 [byE x 8] ⟨false, some 5⟩), (7, .vec 0 1 [byE x 16] ⟨false, some 5⟩), (6, .vec 0 1 [byE x 24] ⟨false, some 5⟩), (5, .vec 0 1 [byE x 32] ⟨false, some 5⟩), (4, .vec 0 1 [byE x 40] ⟨false, some 5⟩), (3, .vec 0 1 [byE x 48] ⟨false, some 5⟩), (2, .vec 7 1 [byE x 56, byE x 48, byE x 40, byE x 32, byE x 24, byE x 16, byE x 8, byE x 0] ⟨true, some 5⟩), (1, .vec 0 1 [byE x 56] ⟨false, some 5⟩), (0, o)]⟩ by kernel_rfl) h)
theorem eight_b {x : Int} {R : AEnd → Heap → Prop}
    (h : R (.ret (.sl 1 7 1 0 8 none)) ⟨9, [(8, .vec 0 1 [byE x 0] ⟨false, some 5⟩), (7, .vec 0 1 [byE x 8] ⟨false, some 5⟩), (6, .vec 0 1 [byE x 16] ⟨false, some 5⟩), (5, .vec 0 1 [byE x 24] ⟨false, some 5⟩), (4, .vec 0 1 [byE x 32] ⟨false, some 5⟩), (3, .vec 0 1 [byE x 40] ⟨false, some 5⟩), (2, .vec 0 1 [byE x 48] ⟨false, some 5⟩), (1, .vec 7 1 [byE x 56, byE x 48, byE x 40, byE x 32, byE x 24, byE x 16, byE x 8, byE x 0] ⟨true, some 5⟩), (0, .vec 0 1 [byE x 56] ⟨false, some 5⟩)]⟩) :
    ACall Tryd.prog 70 [.int .u64 x] ⟨0, []⟩ R :=
  (lvl_sound mixed tabsE 30).1.call _ _ _ _ (Eq.mpr (show (lvl Tryd.prog [(70, t70)] 30).1.call 70 [.int .u64 x] ⟨0, []⟩ R = R (.ret (.sl 1 7 1 0 8 none)) ⟨9, [(8, .vec 0 1 [byE x 0] ⟨false, some 5⟩), (7, .vec 0 1 [byE x 8] ⟨false, some 5⟩), (6, .vec 0 1 [byE x 16] ⟨false, some 5⟩), (5, .vec 0 1 [byE x 24] ⟨false, some 5⟩), (4, .vec 0 1 [byE x 32] ⟨false, some 5⟩), (3, .vec 0 1 [byE x 40] ⟨false, some 5⟩), (2, .vec 0 1 [byE x 48] ⟨false, some 5⟩), (1, .vec 7 1 [byE x 56, byE x 48, byE x 40, byE x 32, byE x 24, byE x 16, byE x 8, byE x 0] ⟨true, some 5⟩), (0, .vec 0 1 [byE x 56] ⟨false, some 5⟩)]⟩ by kernel_rfl) h)
def eightG (x : Int) (i : Nat) : SV := List.getD [byE x 56, byE x 48, byE x 40, byE x 32, byE x 24, byE x 16, byE x 8, byE x 0] i .undef
theorem eight_any (x : Int) : PCall Tryd.prog 70 [.int .u64 x] (.lst 1 8 (eightG x)) :=
  pcall_of (lits1 (.int _ _)) (eight_b ⟨_, rfl, hard_all (elems := [byE x 56, byE x 48, byE x 40, byE x 32, byE x 24, byE x 16, byE x 8, byE x 0]) (get := eightG x) rfl ⟨rfl, .int _ _, rfl, .int _ _, rfl, .int _ _, rfl, .int _ _, rfl, .int _ _, rfl, .int _ _, rfl, .int _ _, rfl, .int _ _, trivial⟩⟩)
end Go.Proofs.YtcklfcagailoiaaDoor
namespace Go.Proofs.YtcklfcagailoiaaDoor
open Ab Go.RowKit
set_option maxRecDepth 100000
set_option linter.unusedVariables false
set_option linter.unusedSimpArgs false
set_option pp.maxSteps 3000
theorem refCheck_any (v : V) : PCall Tryd.prog 45 [v.sv] (.int .i64 (chk v)) := by
  obtain ⟨k, n, t⟩ := v
  refine pcall_of (lits1 (V.lit _)) (call45 rfl ?_)
  iterate 16 (all_goals (try conv => whnf); all_goals (try with_reducible refine br (fun _ => ?_) (fun _ => ?_)))
  all_goals (refine leaf ?_ (.int _ _); simp_all [chk, okV])
  all_goals omega
theorem one_any (v w : V) : PCall Tryd.prog 77 [v.sv, w.sv] (.int .i64 (cmpV v w)) := by
  refine pcall_of (lits2 (V.lit _) (V.lit _)) (call77 rfl ?_)
  iterate 40 (all_goals (try conv => whnf); all_goals (try first | with_reducible refine brY (by assumption) ?_ | with_reducible refine brN (by assumption) ?_ | (with_reducible refine brT ?_ ?_; · (simp only [Bool.and_eq_true, Bool.not_eq_true', decide_eq_true_eq, decide_eq_false_iff_not, beq_iff_eq, beq_eq_false_iff_ne, ne_eq] at *; omega)) | with_reducible refine br (fun _ => ?_) (fun _ => ?_) | with_reducible refine ⟨rfl, ?_⟩ | with_reducible refine ARound.succ ?_))
  all_goals refine leaf ?_ (.int _ _)
  all_goals unfold strLess at *
  all_goals simp only [decide_eq_true_eq, decide_eq_false_iff_not, beq_iff_eq, beq_eq_false_iff_ne, ne_eq, Bool.and_eq_true, Bool.and_eq_false_iff] at *
  all_goals congr 1
  all_goals symm
  all_goals unfold cmpV or3 cmpI cmpS
  all_goals first
    | (simp_all; done)
    | (simp_all; omega)
    | (have h1 : w.k < v.k := by omega
       rw [if_neg (by omega), if_pos h1]; rfl)
    | (have h1 : v.k = w.k := by assumption
       have h2 : w.n < v.n := by omega
       rw [if_neg (by omega), if_neg (by omega), if_neg (by omega), if_pos h2]; rfl)
    | trace_state
structure CmpR (xs ys : List V) where
  k : Nat
  ha : k ≤ xs.length
  hb : k ≤ ys.length
  he : cmpL xs ys = cmpL (xs.drop k) (ys.drop k)
theorem refCompare_any {xs ys : List V} (hx : xs.length ≤ 4611686018427387904) : PCall Tryd.prog 43 [lstV xs, lstV ys] (.int .i64 (cmpL xs ys)) := by
  refine pcall_of (lits2 (.lst _ _ _) (.lst _ _ _)) (call43 rfl ?_)
  iterate 1 (all_goals (try conv => whnf); all_goals (try first | with_reducible refine brY (by assumption) ?_ | with_reducible refine brN (by assumption) ?_ | (with_reducible refine brT ?_ ?_; · (simp only [Bool.and_eq_true, Bool.not_eq_true', decide_eq_true_eq, decide_eq_false_iff_not, beq_iff_eq, beq_eq_false_iff_ne, ne_eq] at *; omega)) | with_reducible refine br (fun _ => ?_) (fun _ => ?_) | with_reducible refine ⟨rfl, ?_⟩ | with_reducible refine ARound.succ ?_))
  refine loop_ind (σ := CmpR xs ys) (fun s => [(0, lstV xs), (1, lstV ys), (4, SV.int IntKind.i64 0), (5, SV.int IntKind.i64 s.k)]) (fun _ => ⟨0, []⟩) (fun s => xs.length - s.k) ?_ ⟨0, by omega, by omega, rfl⟩
  rintro ⟨k, ha, hb, he⟩
  dsimp only
  have et := Int.toNat_natCast k
  have co : PCall Tryd.prog 77 [(xs.getD (k : Int).toNat vnull).sv, (ys.getD (k : Int).toNat vnull).sv] (.int .i64 (cmpV (xs.getD k vnull) (ys.getD k vnull))) := by rw [et]; exact one_any _ _
  iterate 30 (all_goals (try conv => whnf); all_goals (try first | with_reducible refine brY (by assumption) ?_ | with_reducible refine brN (by assumption) ?_ | (with_reducible refine brT ?_ ?_; · (simp only [Bool.and_eq_true, Bool.not_eq_true', decide_eq_true_eq, decide_eq_false_iff_not, beq_iff_eq, beq_eq_false_iff_ne, ne_eq] at *; omega)) | with_reducible refine br (fun _ => ?_) (fun _ => ?_) | with_reducible refine ⟨rfl, ?_⟩ | with_reducible refine ARound.succ ?_ | with_reducible refine PCall.call (co) ?_))
  all_goals simp only [Int.toNat_natCast, bne_iff_ne, ne_eq, decide_eq_true_eq, decide_eq_false_iff_not, bne_eq_false_iff_eq] at *
  · refine leaf ?_ (.int _ _)
    rw [he, cmpL_step (by omega) (by omega), if_pos (by assumption)]
  · refine ⟨⟨k + 1, by omega, by omega, ?_⟩, by dsimp only; omega, by rw [w64add (by omega)], by trivial⟩
    rw [he, cmpL_step (by omega) (by omega), if_neg (by intro h; exact h (by assumption))]
  all_goals
    refine leaf ?_ (.int _ _)
    rw [cmpL_end ha hb (by omega) he]
    unfold cmpI
    first
      | (rw [if_pos (by omega)]; done)
      | (rw [if_neg (by omega), if_pos (by omega)]; done)
      | (rw [if_neg (by omega), if_neg (by omega)]; done)
end Go.Proofs.YtcklfcagailoiaaDoor
namespace Go.Proofs.YtcklfcagailoiaaDoor
open Ab Go.RowKit
set_option maxRecDepth 100000
set_option linter.unusedVariables false
set_option linter.unusedSimpArgs false
set_option pp.maxSteps 3000
attribute [local irreducible] appendK allLtK
theorem append_row {ty : TypeId} {m g i : Nat} {o cs : List UInt8} {sk : Sk} {cap : Option Nat} {n : Nat} {l : List (Nat × AObj)} {k : SV → Heap → Prop} (hn : n = cs.length) (ho : objL l i = some (.vec g 1 (o.map byS) ⟨true, some ty⟩)) (him : i < m) (h0 : 0 < cs.length) (hlen : o.length + cs.length ≤ 140737488355328)
    (hk : k (.sl i (g + 1) 1 0 (o.length + cs.length) none) ⟨m + 1, (m, .vec 0 1 (cs.map byS) sk) :: putO l i (.vec (g + 1) 1 (o.map byS ++ cs.map byS) ⟨true, some ty⟩)⟩) :
    appendK ty 1 1 ⟨m + 1, (m, .vec 0 1 (cs.map byS) sk) :: l⟩ (.sl i g 1 0 o.length none) (.sl m 0 1 0 n cap) k := by
  subst hn
  refine append_mv (elems_all objL_hd (by simp)) (by simpa using h0) (allOnes_by cs) (by rw [objL_nx (by omega)]; exact ho) (by simp) (by simp; omega) (by simp; omega) ?_
  rw [setO_eq]
  unfold putO
  rw [if_neg (by omega), joinTy_self, List.length_map]
  exact hk
theorem append_el {ty : TypeId} {m g i n : Nat} {elems : List SV} {c : SV} {sk : Sk} {l : List (Nat × AObj)} {k : SV → Heap → Prop} (ho : objL l i = some (.vec g 1 elems ⟨true, some ty⟩)) (hn : n = elems.length) (him : i < m) (hc : allOne c.cells = true) (hlen : n + 1 ≤ 140737488355328)
    (hk : k (.sl i (g + 1) 1 0 (n + 1) none) ⟨m + 1, (m, .vec 0 1 [c] sk) :: putO l i (.vec (g + 1) 1 (elems ++ [c]) ⟨true, some ty⟩)⟩) :
    appendK ty 1 1 ⟨m + 1, (m, .vec 0 1 [c] sk) :: l⟩ (.sl i g 1 0 n none) (.sl m 0 1 0 1 (some 1)) k := by
  refine append_mv (elems_all objL_hd rfl) (by simp) (by simp [allOnes, hc]) (by rw [objL_nx (by omega)]; exact ho) hn (by simp; omega) (by simp; omega) ?_
  rw [setO_eq]
  unfold putO
  rw [if_neg (by omega), joinTy_self]
  exact hk
theorem lt_by1 {n : Nat} {s : List UInt8} {c : Int} : ∀ v ∈ s.map byS ++ [SV.int .u8 c], SV.lt 8 n v = true := by
  intro v hv
  rcases List.mem_append.1 hv with h | h
  · exact lt_by v h
  · exact lt_one rfl v h
theorem lt_by2 {n : Nat} {s : List UInt8} {c d : Int} : ∀ v ∈ (s.map byS ++ [SV.int .u8 c]) ++ [SV.int .u8 d], SV.lt 8 n v = true := by
  intro v hv
  rcases List.mem_append.1 hv with h | h
  · exact lt_by1 v h
  · exact lt_one rfl v h
theorem byE_nat {x k : Nat} : byE (x : Int) k = byS (UInt8.ofNat (x / 2 ^ k % 256)) := by
  unfold byE
  rw [Int.fdiv_eq_ediv_of_nonneg _ (by exact_mod_cast Nat.zero_le (2 ^ k)), IntKind.wrap_u8]
  show _ = SV.int .u8 _
  rw [ofNat_toNat (by omega)]
  norm_cast
theorem eight_lst {x : Nat} : PCall Tryd.prog 70 [.int .u64 (x : Int)] (lstB (beB 8 x)) := by
  have e : [byE (x : Int) 56, byE (x : Int) 48, byE (x : Int) 40, byE (x : Int) 32, byE (x : Int) 24, byE (x : Int) 16, byE (x : Int) 8, byE (x : Int) 0] = (beB 8 x).map byS := by
    simp only [byE_nat, beB, List.map_cons, List.map_nil, Nat.reducePow]
  refine pcall_of (lits1 (.int _ _)) (eight_b ⟨_, rfl, hard_by (i := 1) (g := 7) (sk := ⟨true, some 5⟩) ?_ (by rw [beB_len])⟩)
  rw [← e]; rfl
/-- Its loop over a text: behind the first byte. -/
structure RxS (t : List UInt8) where
  i : Nat
  g : Nat
  h1 : 0 < i
  hi : i ≤ t.length
theorem rep_take {t : List UInt8} {i : Nat} (h : i < t.length) : rep0 (t.take (i + 1)) = rep0 (t.take i) ++ (if t.getD i 0 = 0 then [0, 255] else [t.getD i 0]) := by
  rw [take_succ_getD h]
  show repB _ _ _ = _
  rw [repB_app]
  congr 1
  by_cases hc : t.getD i 0 = 0
  · rw [hc, if_pos rfl]; rfl
  · rw [if_neg hc, repB, if_neg hc]; rfl
theorem refText_any {v : V} (hv : okV v = true) (iv : v.In') : PCall Tryd.prog 75 [v.sv] (lstB (textB v)) := by
  obtain ⟨k, n, t⟩ := v
  refine pcall_of (lits1 (V.lit _)) (call75 rfl ?_)
  have kk := okV_kind hv
  dsimp only at kk
  rcases kk with rfl | rfl | rfl | rfl
  · iterate 12 (all_goals (try conv => whnf); all_goals (try first | with_reducible refine brY (by assumption) ?_ | with_reducible refine brN (by assumption) ?_ | (with_reducible refine brT ?_ ?_; · (simp only [Bool.and_eq_true, Bool.not_eq_true', decide_eq_true_eq, decide_eq_false_iff_not, beq_iff_eq, beq_eq_false_iff_ne, ne_eq] at *; omega)) | with_reducible refine br (fun _ => ?_) (fun _ => ?_) | with_reducible refine ⟨rfl, ?_⟩ | with_reducible refine ARound.succ ?_))
    refine ⟨_, rfl, ?_⟩
    exact hard_by (s := [1]) (i := 1) (g := 0) (sk := ⟨false, some 5⟩) rfl rfl
  · obtain ⟨n1, t1⟩ := okV_1 hv rfl
    dsimp only at n1 t1
    subst t1
    have hx : SV.int .u8 (IntKind.u8.wrap n) = byS (if n = 0 then 0 else 1) := by rcases n1 with rfl | rfl <;> rfl
    iterate 14 (all_goals (try conv => whnf); all_goals (try first | with_reducible refine brY (by assumption) ?_ | with_reducible refine brN (by assumption) ?_ | (with_reducible refine brT ?_ ?_; · (simp only [Bool.and_eq_true, Bool.not_eq_true', decide_eq_true_eq, decide_eq_false_iff_not, beq_iff_eq, beq_eq_false_iff_ne, ne_eq] at *; omega)) | with_reducible refine br (fun _ => ?_) (fun _ => ?_) | with_reducible refine ⟨rfl, ?_⟩ | with_reducible refine ARound.succ ?_))
    refine ⟨_, rfl, ?_⟩
    rw [hx]
    exact hard_by (s := [2, if n = 0 then 0 else 1]) (i := 1) (g := 0) (sk := ⟨false, some 5⟩) rfl rfl
  · have i1 : -9223372036854775808 ≤ n ∧ n ≤ 9223372036854775807 := iv
    have ex : IntKind.u64.wrap (IntKind.u64.wrap n + 9223372036854775808) = (((n + 9223372036854775808).toNat : Nat) : Int) := by rw [IntKind.wrap_u64, IntKind.wrap_u64]; omega
    have ce := eight_lst (x := (n + 9223372036854775808).toNat)
    rw [← ex] at ce
    iterate 20 (all_goals (try conv => whnf); all_goals (try first | with_reducible refine brY (by assumption) ?_ | with_reducible refine brN (by assumption) ?_ | (with_reducible refine brT ?_ ?_; · (simp only [Bool.and_eq_true, Bool.not_eq_true', decide_eq_true_eq, decide_eq_false_iff_not, beq_iff_eq, beq_eq_false_iff_ne, ne_eq] at *; omega)) | with_reducible refine br (fun _ => ?_) (fun _ => ?_) | with_reducible refine ⟨rfl, ?_⟩ | with_reducible refine ARound.succ ?_ | with_reducible refine PCall.call (ce) ?_ | (refine append_cap (xs := (beB 8 (n + 9223372036854775808).toNat).map byS) elems_bytes (by simp [beB_len]) (allOnes_by _) rfl (by simp) (by simp [beB_len]) (by simp [beB_len]) (by simp [beB_len]) ?_)))
    refine ⟨_, rfl, hard_by (s := 3 :: beB 8 (n + 9223372036854775808).toNat) (i := 2) (g := 0) (sk := ⟨true, some 5⟩) rfl ?_⟩
    rw [List.length_map, List.length_cons]; omega
  · obtain ⟨n1, t1⟩ := okV_3 hv rfl
    dsimp only at n1 t1
    subst n1
    have eb : ∀ c : UInt8, ((c.toNat : Int) == 0) = decide (c = 0) := fun c => by
      by_cases h : c = 0
      · subst h; rfl
      · have : c.toNat ≠ 0 := fun e => h (UInt8.toNat_inj.1 e)
        rw [decide_eq_false h, beq_eq_false_iff_ne]; omega
    by_cases h0 : t = []
    · subst h0
      iterate 24 (all_goals (try conv => whnf); all_goals (try first | with_reducible refine brY (by assumption) ?_ | with_reducible refine brN (by assumption) ?_ | (with_reducible refine brT ?_ ?_; · (simp only [Bool.and_eq_true, Bool.not_eq_true', decide_eq_true_eq, decide_eq_false_iff_not, beq_iff_eq, beq_eq_false_iff_ne, ne_eq] at *; omega)) | with_reducible refine br (fun _ => ?_) (fun _ => ?_) | with_reducible refine ⟨rfl, ?_⟩ | with_reducible refine ARound.succ ?_ | (refine append_cap (xs := [byS 0, byS 1]) (elems_all objL_hd rfl) (by decide) rfl rfl (by decide) (by decide) (by decide) (by decide) ?_) | with_reducible refine loop_rounds 2 ?_))
      refine ⟨_, rfl, ?_⟩
      exact hard_by (s := [4, 0, 1]) (i := 3) (g := 0) (sk := ⟨true, some 5⟩) rfl rfl
    have hpos : 0 < t.length := by cases t with | nil => exact absurd rfl h0 | cons c r => simp
    have hrl : ∀ i, (rep0 (t.take i)).length ≤ 200 := fun i => by
      have := repB_len 0 (nw := [0, 255]) (k := 2) (by decide) (by omega) (t.take i)
      have h2 : (t.take i).length ≤ t.length := by rw [List.length_take]; omega
      show (repB 0 [0, 255] (t.take i)).length ≤ 200
      omega
    iterate 14 (all_goals (try conv => whnf); all_goals (try first | with_reducible refine brY (by assumption) ?_ | with_reducible refine brN (by assumption) ?_ | (with_reducible refine brT ?_ ?_; · (simp only [Bool.and_eq_true, Bool.not_eq_true', decide_eq_true_eq, decide_eq_false_iff_not, beq_iff_eq, beq_eq_false_iff_ne, ne_eq] at *; omega)) | with_reducible refine br (fun _ => ?_) (fun _ => ?_) | with_reducible refine ⟨rfl, ?_⟩ | with_reducible refine ARound.succ ?_))
    refine loop_two (σ := RxS t) (fun s => [(0, V.sv ⟨3, 0, t⟩), (1, SV.ref 0 0 0 0), (2, SV.nils), (6, SV.int IntKind.u8 3), (7, SV.bool false), (10, SV.bool false), (16, SV.bool false), (3, SV.sl 3 s.g 1 0 (4 :: rep0 (t.take s.i)).length none), (4, SV.int IntKind.i64 s.i)])
      (fun s => ⟨4, [(3, bufO 5 s.g (4 :: rep0 (t.take s.i))), (2, .vec 0 1 [byS (t.getD 0 0)] ⟨false, some 5⟩), (1, .vec 0 1 [byS 4] ⟨false, some 5⟩), (0, .vec 0 3 [V.sv ⟨3, 0, t⟩] ⟨false, some 65⟩)]⟩) (fun s => t.length - s.i) t.length 4 (by show 0 + 1 + 1 ≤ 4; omega) ?_ ?_
    · have hd : decide ((0 : Int) < ((t.length : Nat) : Int)) = true := decide_eq_true (by omega)
      have e71 : IntKind.i64.wrap (0 + 1) = ((1 : Nat) : Int) := by decide
      have hr := rep_take (t := t) (i := 0) hpos
      by_cases hc : t.getD 0 0 = 0
      · have q : (((t.getD (Int.toNat 0) 0).toNat : Int) == 0) = true := by rw [show Int.toNat 0 = 0 from rfl, eb]; exact decide_eq_true hc
        rw [if_pos hc] at hr
        iterate 30 (all_goals (try conv => whnf); all_goals (try first | with_reducible refine brY (by assumption) ?_ | with_reducible refine brN (by assumption) ?_ | (with_reducible refine brT ?_ ?_; · (simp only [Bool.and_eq_true, Bool.not_eq_true', decide_eq_true_eq, decide_eq_false_iff_not, beq_iff_eq, beq_eq_false_iff_ne, ne_eq] at *; omega)) | with_reducible refine br (fun _ => ?_) (fun _ => ?_) | with_reducible refine ⟨rfl, ?_⟩ | with_reducible refine ARound.succ ?_ | (refine append_cap (xs := [byS (t.getD 0 0)]) (elems_all objL_hd rfl) (by simp) rfl rfl (by simp) (by simp) (by simp) (by simp) ?_) | (refine append_one (o := [4, t.getD 0 0]) (i := 3) (c := byS 255) rfl (by omega) rfl (by simp) ?_) | (refine allLtK_of lt_by ?_) | (refine allLtK_of (lt_one rfl) ?_) | (refine allLtK_of (lt_by (s := [4, t.getD 0 0, 255])) ?_)))
        refine ⟨⟨1, 1, by omega, hpos⟩, by dsimp only; omega, ?_, ?_⟩
        · rw [e71, hr]; rfl
        · dsimp only; rw [hr, show Int.toNat 0 = 0 from rfl, hc]; rfl
      · have q : (((t.getD (Int.toNat 0) 0).toNat : Int) == 0) = false := by rw [show Int.toNat 0 = 0 from rfl, eb]; exact decide_eq_false hc
        rw [if_neg hc] at hr
        iterate 30 (all_goals (try conv => whnf); all_goals (try first | with_reducible refine brY (by assumption) ?_ | with_reducible refine brN (by assumption) ?_ | (with_reducible refine brT ?_ ?_; · (simp only [Bool.and_eq_true, Bool.not_eq_true', decide_eq_true_eq, decide_eq_false_iff_not, beq_iff_eq, beq_eq_false_iff_ne, ne_eq] at *; omega)) | with_reducible refine br (fun _ => ?_) (fun _ => ?_) | with_reducible refine ⟨rfl, ?_⟩ | with_reducible refine ARound.succ ?_ | (refine append_cap (xs := [byS (t.getD 0 0)]) (elems_all objL_hd rfl) (by simp) rfl rfl (by simp) (by simp) (by simp) (by simp) ?_)))
        refine ⟨⟨1, 0, by omega, hpos⟩, by dsimp only; omega, ?_, ?_⟩
        · rw [e71, hr]; rfl
        · dsimp only; rw [hr]; rfl
    · rintro ⟨i, g, h1, hi⟩
      dsimp only
      have qg : Nat.beq g g = true := nbeq_self g
      have hr1 := hrl i
      by_cases hil : i < t.length
      · have hd : decide ((i : Int) < ((t.length : Nat) : Int)) = true := decide_eq_true (by omega)
        have e71 : IntKind.i64.wrap ((i : Int) + 1) = ((i + 1 : Nat) : Int) := w64add (by omega)
        have hr := rep_take (t := t) (i := i) hil
        have gi := Int.toNat_natCast i
        by_cases hc : t.getD i 0 = 0
        · have q : (((t.getD (i : Int).toNat 0).toNat : Int) == 0) = true := by rw [gi, eb]; exact decide_eq_true hc
          rw [if_pos hc] at hr
          have hx : SV.int .u8 ((t.getD (i : Int).toNat 0).toNat : Int) = byS 0 := by rw [gi, hc]
          iterate 40 (all_goals (try conv => whnf); all_goals (try first | with_reducible refine brY (by assumption) ?_ | with_reducible refine brN (by assumption) ?_ | (with_reducible refine brT ?_ ?_; · (simp only [Bool.and_eq_true, Bool.not_eq_true', decide_eq_true_eq, decide_eq_false_iff_not, beq_iff_eq, beq_eq_false_iff_ne, ne_eq] at *; omega)) | with_reducible refine br (fun _ => ?_) (fun _ => ?_) | with_reducible refine ⟨rfl, ?_⟩ | with_reducible refine ARound.succ ?_ | (refine append_el (i := 3) (elems := (4 :: rep0 (t.take i)).map byS) rfl (by simp) (by omega) rfl (by simp only [List.length_cons]; omega) ?_) | (refine append_el (i := 3) (elems := (4 :: rep0 (t.take i)).map byS ++ [SV.int .u8 ((t.getD (i : Int).toNat 0).toNat : Int)]) rfl (by simp) (by omega) rfl (by simp only [List.length_cons]; omega) ?_) | (refine allLtK_of lt_by1 ?_) | (refine allLtK_of lt_by2 ?_) | (refine allLtK_of (lt_one rfl) ?_)))
          refine ⟨⟨i + 1, g + 1 + 1, by omega, hil⟩, by dsimp only; omega, ?_, ?_⟩
          · rw [e71, hr]; simp
          · dsimp only; rw [hx, hr]; simp
        · have q : (((t.getD (i : Int).toNat 0).toNat : Int) == 0) = false := by rw [gi, eb]; exact decide_eq_false hc
          rw [if_neg hc] at hr
          iterate 40 (all_goals (try conv => whnf); all_goals (try first | with_reducible refine brY (by assumption) ?_ | with_reducible refine brN (by assumption) ?_ | (with_reducible refine brT ?_ ?_; · (simp only [Bool.and_eq_true, Bool.not_eq_true', decide_eq_true_eq, decide_eq_false_iff_not, beq_iff_eq, beq_eq_false_iff_ne, ne_eq] at *; omega)) | with_reducible refine br (fun _ => ?_) (fun _ => ?_) | with_reducible refine ⟨rfl, ?_⟩ | with_reducible refine ARound.succ ?_ | (refine append_el (i := 3) (elems := (4 :: rep0 (t.take i)).map byS) rfl (by simp) (by omega) rfl (by simp only [List.length_cons]; omega) ?_) | (refine allLtK_of lt_by1 ?_) | (refine allLtK_of lt_by2 ?_) | (refine allLtK_of (lt_one rfl) ?_)))
          refine ⟨⟨i + 1, g + 1, by omega, hil⟩, by dsimp only; omega, ?_, ?_⟩
          · rw [e71, hr]; simp
          · dsimp only; rw [hr]; simp
      · have hd : decide ((i : Int) < ((t.length : Nat) : Int)) = false := decide_eq_false (by omega)
        have ht : t.take i = t := List.take_of_length_le (by omega)
        rw [ht] at hr1
        rw [ht]
        iterate 20 (all_goals (try conv => whnf); all_goals (try first | with_reducible refine brY (by assumption) ?_ | with_reducible refine brN (by assumption) ?_ | (with_reducible refine brT ?_ ?_; · (simp only [Bool.and_eq_true, Bool.not_eq_true', decide_eq_true_eq, decide_eq_false_iff_not, beq_iff_eq, beq_eq_false_iff_ne, ne_eq] at *; omega)) | with_reducible refine br (fun _ => ?_) (fun _ => ?_) | with_reducible refine ⟨rfl, ?_⟩ | with_reducible refine ARound.succ ?_ | (refine append_row (i := 3) (o := 4 :: rep0 t) (cs := [0, 1]) rfl rfl (by omega) (by decide) (by simp only [List.length_cons, List.length_nil]; omega) ?_)))
        refine ⟨_, rfl, ?_⟩
        refine hard_by (s := 4 :: (rep0 t ++ [0, 1])) (i := 3) (g := g + 1) (sk := ⟨true, some 5⟩) ?_ (by simp)
        show some (AObj.vec (g + 1) 1 ((4 :: rep0 t).map byS ++ [0, 1].map byS) ⟨true, some 5⟩) = _
        simp
end Go.Proofs.YtcklfcagailoiaaDoor
namespace Go.Proofs.YtcklfcagailoiaaDoor
open Ab Go.RowKit
set_option maxRecDepth 100000
set_option linter.unusedVariables false
set_option linter.unusedSimpArgs false
set_option pp.maxSteps 3000
attribute [local irreducible] appendK allLtK
theorem refTuple_any {l : List V} (hin : ∀ v ∈ l, v.In') (hlen : l.length ≤ 4611686018427387904) : PCall Tryd.prog 40 [lstV l] (tu2 (tupT l) (tupE l)) := by
  refine pcall_of (lits1 (.lst _ _ _)) (call40 rfl ?_)
  by_cases h16 : 16 < l.length
  · have hd : decide ((16 : Int) < (l.length : Int)) = true := decide_eq_true (by omega)
    iterate 8 (all_goals (try conv => whnf); all_goals (try first | with_reducible refine brY (by assumption) ?_ | with_reducible refine brN (by assumption) ?_ | (with_reducible refine brT ?_ ?_; · (simp only [Bool.and_eq_true, Bool.not_eq_true', decide_eq_true_eq, decide_eq_false_iff_not, beq_iff_eq, beq_eq_false_iff_ne, ne_eq] at *; omega)) | with_reducible refine br (fun _ => ?_) (fun _ => ?_) | with_reducible refine ⟨rfl, ?_⟩ | with_reducible refine ARound.succ ?_))
    exact leaf (by unfold tupT tupE; rw [if_pos h16, if_pos h16]) tu2_lit
  have hd : decide ((16 : Int) < (l.length : Int)) = false := decide_eq_false (by omega)
  have bad : ∀ k, k < l.length → okV (l.getD k vnull) = false → tu2 [] 2 = tu2 (tupT l) (tupE l) := fun k hk hb => by
    unfold tupT tupE; rw [if_neg h16, if_neg h16, all_bad hk hb]; rfl
  by_cases h0 : l = []
  · subst h0
    iterate 20 (all_goals (try conv => whnf); all_goals (try first | with_reducible refine brY (by assumption) ?_ | with_reducible refine brN (by assumption) ?_ | (with_reducible refine brT ?_ ?_; · (simp only [Bool.and_eq_true, Bool.not_eq_true', decide_eq_true_eq, decide_eq_false_iff_not, beq_iff_eq, beq_eq_false_iff_ne, ne_eq] at *; omega)) | with_reducible refine br (fun _ => ?_) (fun _ => ?_) | with_reducible refine ⟨rfl, ?_⟩ | with_reducible refine ARound.succ ?_ | with_reducible refine loop_rounds 2 ?_))
    exact leaf rfl tu2_lit
  have hpos : 0 < l.length := by cases l with | nil => exact absurd rfl h0 | cons c r => simp
  have okt : ∀ k, k < l.length → (l.take k).all okV = true → okV (l.getD k vnull) = true → (l.take (k + 1)).all okV = true := fun k hkl h1 h2 => by rw [takeV hkl, List.all_append, h1, List.all_cons, h2]; rfl
  iterate 8 (all_goals (try conv => whnf); all_goals (try first | with_reducible refine brY (by assumption) ?_ | with_reducible refine brN (by assumption) ?_ | (with_reducible refine brT ?_ ?_; · (simp only [Bool.and_eq_true, Bool.not_eq_true', decide_eq_true_eq, decide_eq_false_iff_not, beq_iff_eq, beq_eq_false_iff_ne, ne_eq] at *; omega)) | with_reducible refine br (fun _ => ?_) (fun _ => ?_) | with_reducible refine ⟨rfl, ?_⟩ | with_reducible refine ARound.succ ?_))
  refine loop_two (σ := TuS l) (fun s => [(0, lstV l), (2, SV.str []), (3, SV.int IntKind.i64 0), (9, SV.bool false), (4, SV.sl 0 s.g 1 0 ((l.take s.k).flatMap textB).length none), (5, SV.int IntKind.i64 s.k)])
    (fun s => ⟨1, [(0, bufO 5 s.g ((l.take s.k).flatMap textB))]⟩) (fun s => l.length - s.k) l.length 1 (by decide) ?_ ?_
  · have hd : decide ((0 : Int) < ((l.length : Nat) : Int)) = true := decide_eq_true (by omega)
    have i1 := hin (l.getD 0 vnull) (by simp [List.getD, hpos])
    have cc := refCheck_any (l.getD 0 vnull)
    have hv : l.getD (Int.toNat 0) vnull = l.getD 0 vnull := rfl
    cases hok : okV (l.getD 0 vnull)
    · have hc : chk (l.getD 0 vnull) = 2 := by unfold chk; rw [hok]; rfl
      rw [hc] at cc
      iterate 14 (all_goals (try conv => whnf); all_goals (try first | with_reducible refine brY (by assumption) ?_ | with_reducible refine brN (by assumption) ?_ | (with_reducible refine brT ?_ ?_; · (simp only [Bool.and_eq_true, Bool.not_eq_true', decide_eq_true_eq, decide_eq_false_iff_not, beq_iff_eq, beq_eq_false_iff_ne, ne_eq] at *; omega)) | with_reducible refine br (fun _ => ?_) (fun _ => ?_) | with_reducible refine ⟨rfl, ?_⟩ | with_reducible refine ARound.succ ?_ | with_reducible refine PCall.call (cc) ?_ | (rw [hv])))
      exact leaf (bad 0 hpos hok) tu2_lit
    · have hc : chk (l.getD 0 vnull) = 0 := by unfold chk; rw [hok]; rfl
      rw [hc] at cc
      have ct := refText_any hok i1
      have ht : (l.take 1).flatMap textB = textB (l.getD 0 vnull) := by rw [takeV (k := 0) hpos]; simp
      have hp := textB_pos (l.getD 0 vnull)
      have hl3 := textB_len hok
      have e71 : IntKind.i64.wrap (0 + 1) = ((1 : Nat) : Int) := by decide
      iterate 24 (all_goals (try conv => whnf); all_goals (try first | with_reducible refine brY (by assumption) ?_ | with_reducible refine brN (by assumption) ?_ | (with_reducible refine brT ?_ ?_; · (simp only [Bool.and_eq_true, Bool.not_eq_true', decide_eq_true_eq, decide_eq_false_iff_not, beq_iff_eq, beq_eq_false_iff_ne, ne_eq] at *; omega)) | with_reducible refine br (fun _ => ?_) (fun _ => ?_) | with_reducible refine ⟨rfl, ?_⟩ | with_reducible refine ARound.succ ?_ | with_reducible refine PCall.call (cc) ?_ | with_reducible refine PCall.call (ct) ?_ | (rw [hv]) | (refine append_new (xs := (textB (l.getD 0 vnull)).map byS) elems_bytes (by simpa using hp) (allOnes_by _) (by rw [List.length_map]; omega) (by rw [List.length_map]; omega) ?_)))
      refine ⟨⟨1, 0, Nat.le_refl _, hpos, okt 0 hpos rfl hok⟩, by dsimp only; omega, ?_, ?_⟩
      · rw [e71, ht, List.length_map]
      · dsimp only; rw [ht]
  · rintro ⟨k, g, h1, hk, hok0⟩
    dsimp only
    have qg : Nat.beq g g = true := nbeq_self g
    have hOl : ((l.take k).flatMap textB).length ≤ 4800 := by
      have := flat_len hok0
      have h2 : (l.take k).length ≤ l.length := by rw [List.length_take]; omega
      omega
    by_cases hkl : k < l.length
    · have hd : decide ((k : Int) < ((l.length : Nat) : Int)) = true := decide_eq_true (by omega)
      have i1 := hin (l.getD k vnull) (by simp [List.getD, hkl])
      have hv : l.getD (k : Int).toNat vnull = l.getD k vnull := by rw [Int.toNat_natCast]
      have cc := refCheck_any (l.getD k vnull)
      cases hok : okV (l.getD k vnull)
      · have hc : chk (l.getD k vnull) = 2 := by unfold chk; rw [hok]; rfl
        rw [hc] at cc
        iterate 14 (all_goals (try conv => whnf); all_goals (try first | with_reducible refine brY (by assumption) ?_ | with_reducible refine brN (by assumption) ?_ | (with_reducible refine brT ?_ ?_; · (simp only [Bool.and_eq_true, Bool.not_eq_true', decide_eq_true_eq, decide_eq_false_iff_not, beq_iff_eq, beq_eq_false_iff_ne, ne_eq] at *; omega)) | with_reducible refine br (fun _ => ?_) (fun _ => ?_) | with_reducible refine ⟨rfl, ?_⟩ | with_reducible refine ARound.succ ?_ | with_reducible refine PCall.call (cc) ?_ | (rw [hv])))
        exact leaf (bad k hkl hok) tu2_lit
      · have hc : chk (l.getD k vnull) = 0 := by unfold chk; rw [hok]; rfl
        rw [hc] at cc
        have ct := refText_any hok i1
        have e71 : IntKind.i64.wrap ((k : Int) + 1) = ((k + 1 : Nat) : Int) := w64add (by omega)
        have hto : (l.take (k + 1)).flatMap textB = (l.take k).flatMap textB ++ textB (l.getD k vnull) := by rw [takeV hkl, List.flatMap_append]; simp
        have hp := textB_pos (l.getD k vnull)
        have hl3 := textB_len hok
        iterate 24 (all_goals (try conv => whnf); all_goals (try first | with_reducible refine brY (by assumption) ?_ | with_reducible refine brN (by assumption) ?_ | (with_reducible refine brT ?_ ?_; · (simp only [Bool.and_eq_true, Bool.not_eq_true', decide_eq_true_eq, decide_eq_false_iff_not, beq_iff_eq, beq_eq_false_iff_ne, ne_eq] at *; omega)) | with_reducible refine br (fun _ => ?_) (fun _ => ?_) | with_reducible refine ⟨rfl, ?_⟩ | with_reducible refine ARound.succ ?_ | with_reducible refine PCall.call (cc) ?_ | with_reducible refine PCall.call (ct) ?_ | (rw [hv]) | (refine append_lst (i := 0) (o := (l.take k).flatMap textB) rfl hp (by omega) ?_)))
        refine ⟨⟨k + 1, g + 1, by omega, hkl, okt k hkl hok0 hok⟩, by dsimp only; omega, ?_, ?_⟩
        · rw [e71, hto, List.length_append]
        · dsimp only; rw [hto]; simp [putO]
    · have hd : decide ((k : Int) < ((l.length : Nat) : Int)) = false := decide_eq_false (by omega)
      rw [List.take_of_length_le (by omega)] at hok0 hOl
      have ee : tu2 (l.flatMap textB) 0 = tu2 (tupT l) (tupE l) := by unfold tupT tupE; rw [if_neg h16, if_neg h16, hok0]; rfl
      rw [List.take_of_length_le (by omega)]
      iterate 18 (all_goals (try conv => whnf); all_goals (try first | with_reducible refine brY (by assumption) ?_ | with_reducible refine brN (by assumption) ?_ | (with_reducible refine brT ?_ ?_; · (simp only [Bool.and_eq_true, Bool.not_eq_true', decide_eq_true_eq, decide_eq_false_iff_not, beq_iff_eq, beq_eq_false_iff_ne, ne_eq] at *; omega)) | with_reducible refine br (fun _ => ?_) (fun _ => ?_) | with_reducible refine ⟨rfl, ?_⟩ | with_reducible refine ARound.succ ?_ | (refine dropN_run (Nat.zero_le _) ?_) | (refine takeN_all (by simp) ?_) | (refine bytesK_run ?_)))
      exact leaf ee tu2_lit
/-- The span of a tuple. -/
@[reducible] def spV (a b : List UInt8) (e : Int) : SV := .tup [.agg [.str a, .str b], .int .i64 e]
theorem spV_lit {a b : List UInt8} {e : Int} : LitV (spV a b e) := lit2 (.agg (by simp; exact ⟨.str _, .str _⟩)) (.int _ _)
def spT (l : List V) : List UInt8 := if tupE l = 0 then tupT l else []
def spA (l : List V) : List UInt8 := if tupE l = 0 then afterR (tupT l) else []
theorem tupT_len (l : List V) : (tupT l).length ≤ 4800 := by
  unfold tupT
  split
  · simp
  · cases h : l.all okV
    · simp
    · have := flat_len h; simp only [if_true]; omega
theorem begins_any {l : List V} (hin : ∀ v ∈ l, v.In') (hlen : l.length ≤ 4611686018427387904) : PCall Tryd.prog 26 [lstV l] (spV (spT l) (spA l) (tupE l)) := by
  refine pcall_of (lits1 (.lst _ _ _)) (call26 rfl ?_)
  have ct := tuple_any hin hlen
  have hl := tupT_len l
  have ca := after_any (s := tupT l) (by omega)
  by_cases h : tupE l = 0
  · have q : (tupE l != 0) = false := by rw [bne_eq_false_iff_eq]; exact h
    iterate 20 (all_goals (try conv => whnf); all_goals (try first | with_reducible refine brY (by assumption) ?_ | with_reducible refine brN (by assumption) ?_ | (with_reducible refine brT ?_ ?_; · (simp only [Bool.and_eq_true, Bool.not_eq_true', decide_eq_true_eq, decide_eq_false_iff_not, beq_iff_eq, beq_eq_false_iff_ne, ne_eq] at *; omega)) | with_reducible refine br (fun _ => ?_) (fun _ => ?_) | with_reducible refine ⟨rfl, ?_⟩ | with_reducible refine ARound.succ ?_ | with_reducible refine PCall.call (ct) ?_ | with_reducible refine PCall.call (ca) ?_))
    exact leaf (by unfold spT spA; rw [if_pos h, if_pos h, h]) spV_lit
  · have q : (tupE l != 0) = true := by rw [bne_iff_ne]; exact h
    iterate 20 (all_goals (try conv => whnf); all_goals (try first | with_reducible refine brY (by assumption) ?_ | with_reducible refine brN (by assumption) ?_ | (with_reducible refine brT ?_ ?_; · (simp only [Bool.and_eq_true, Bool.not_eq_true', decide_eq_true_eq, decide_eq_false_iff_not, beq_iff_eq, beq_eq_false_iff_ne, ne_eq] at *; omega)) | with_reducible refine br (fun _ => ?_) (fun _ => ?_) | with_reducible refine ⟨rfl, ?_⟩ | with_reducible refine ARound.succ ?_ | with_reducible refine PCall.call (ct) ?_ | with_reducible refine PCall.call (ca) ?_))
    exact leaf (by unfold spT spA; rw [if_neg h, if_neg h]) spV_lit
theorem refBegins_any {l : List V} (hin : ∀ v ∈ l, v.In') (hlen : l.length ≤ 4611686018427387904) : PCall Tryd.prog 41 [lstV l] (spV (spT l) (spA l) (tupE l)) := by
  refine pcall_of (lits1 (.lst _ _ _)) (call41 rfl ?_)
  have ct := refTuple_any hin hlen
  have hl := tupT_len l
  have ca := refAfter_any (s := tupT l) (by omega)
  by_cases h : tupE l = 0
  · have q : (tupE l != 0) = false := by rw [bne_eq_false_iff_eq]; exact h
    iterate 20 (all_goals (try conv => whnf); all_goals (try first | with_reducible refine brY (by assumption) ?_ | with_reducible refine brN (by assumption) ?_ | (with_reducible refine brT ?_ ?_; · (simp only [Bool.and_eq_true, Bool.not_eq_true', decide_eq_true_eq, decide_eq_false_iff_not, beq_iff_eq, beq_eq_false_iff_ne, ne_eq] at *; omega)) | with_reducible refine br (fun _ => ?_) (fun _ => ?_) | with_reducible refine ⟨rfl, ?_⟩ | with_reducible refine ARound.succ ?_ | with_reducible refine PCall.call (ct) ?_ | with_reducible refine PCall.call (ca) ?_))
    exact leaf (by unfold spT spA; rw [if_pos h, if_pos h, h]) spV_lit
  · have q : (tupE l != 0) = true := by rw [bne_iff_ne]; exact h
    iterate 20 (all_goals (try conv => whnf); all_goals (try first | with_reducible refine brY (by assumption) ?_ | with_reducible refine brN (by assumption) ?_ | (with_reducible refine brT ?_ ?_; · (simp only [Bool.and_eq_true, Bool.not_eq_true', decide_eq_true_eq, decide_eq_false_iff_not, beq_iff_eq, beq_eq_false_iff_ne, ne_eq] at *; omega)) | with_reducible refine br (fun _ => ?_) (fun _ => ?_) | with_reducible refine ⟨rfl, ?_⟩ | with_reducible refine ARound.succ ?_ | with_reducible refine PCall.call (ct) ?_ | with_reducible refine PCall.call (ca) ?_))
    exact leaf (by unfold spT spA; rw [if_neg h, if_neg h]) spV_lit
end Go.Proofs.YtcklfcagailoiaaDoor
namespace Go.Proofs.YtcklfcagailoiaaDoor
open Go Ab
theorem or3_zero {a b c : Int} (h : or3 a b c = 0) : a = 0 ∧ b = 0 ∧ c = 0 := by
  unfold or3 at h
  by_cases ha : a = 0
  · rw [if_neg (by omega)] at h
    by_cases hb : b = 0
    · rw [if_neg (by omega)] at h; exact ⟨ha, hb, h⟩
    · rw [if_pos hb] at h; omega
  · rw [if_pos ha] at h; omega
theorem cmpI_zero {a b : Int} (h : cmpI a b = 0) : a = b := by
  unfold cmpI at h
  by_cases h1 : a < b
  · rw [if_pos h1] at h; omega
  · rw [if_neg h1] at h
    by_cases h2 : b < a
    · rw [if_pos h2] at h; omega
    · omega
theorem cmpV_zero {v w : V} (h : cmpV v w = 0) : v = w := by
  unfold cmpV at h
  obtain ⟨h1, h2, h3⟩ := or3_zero h
  obtain ⟨k, n, t⟩ := v
  obtain ⟨k', n', t'⟩ := w
  dsimp only at h1 h2 h3
  rw [cmpI_zero h1, cmpI_zero h2, cmpS_zero h3]
theorem flat_pre : ∀ {a b : List V} {r : List UInt8}, a.all okV = true → b.all okV = true → (∀ v ∈ a, v.In') → (∀ v ∈ b, v.In') → a.flatMap textB ++ r = b.flatMap textB → ∃ c, b = a ++ c
  | [], b, r, _, _, _, _, _ => ⟨b, rfl⟩
  | v :: a, [], r, _, _, _, _, h => by
    have := textB_pos v
    rw [List.flatMap_nil, List.flatMap_cons] at h
    cases ht : textB v with
    | nil => rw [ht] at this; cases this
    | cons c s => rw [ht] at h; cases h
  | v :: a, w :: b, r, ha, hb, ia, ib, h => by
    simp only [List.all_cons, Bool.and_eq_true] at ha hb
    rw [List.flatMap_cons, List.flatMap_cons, List.append_assoc] at h
    have hc := cmp_text ha.1 hb.1 (ia v (by simp)) (ib w (by simp)) (a.flatMap textB ++ r) (b.flatMap textB)
    rw [h, cmpS_self] at hc
    have h0 : cmpV v w = 0 := by
      by_cases h0 : cmpV v w = 0
      · exact h0
      · rw [if_neg h0] at hc; omega
    obtain rfl := cmpV_zero h0
    have h2 := List.append_cancel_left h
    obtain ⟨c, rfl⟩ := flat_pre ha.2 hb.2 (fun u hu => ia u (by simp [hu])) (fun u hu => ib u (by simp [hu])) h2
    exact ⟨c, rfl⟩
/-- Texts' first parts are tuples' first parts. -/
theorem flat_prefix {a b : List V} (ha : a.all okV = true) (hb : b.all okV = true) (ia : ∀ v ∈ a, v.In') (ib : ∀ v ∈ b, v.In') : (a.flatMap textB).isPrefixOf (b.flatMap textB) = true ↔ a.length ≤ b.length ∧ b.take a.length = a := by
  rw [List.isPrefixOf_iff_prefix]
  constructor
  · rintro ⟨r, h⟩
    obtain ⟨c, rfl⟩ := flat_pre ha hb ia ib h
    exact ⟨by simp, by simp⟩
  · rintro ⟨_, h⟩
    refine ⟨(b.drop a.length).flatMap textB, ?_⟩
    rw [← List.flatMap_append]
    congr 1
    conv => lhs; lhs; rw [← h]
    exact List.take_append_drop _ _
end Go.Proofs.YtcklfcagailoiaaDoor
namespace Go.Proofs.YtcklfcagailoiaaDoor
open Ab Go.RowKit
set_option maxRecDepth 100000
set_option linter.unusedVariables false
set_option linter.unusedSimpArgs false
set_option pp.maxSteps 3000
attribute [local irreducible] appendK allLtK
theorem elems_vals {h : Heap} {s : List V} : Elems h 3 (lstV s) (s.map V.sv) := fun k hk => by
  refine elems_lst k ?_
  have e : (List.range s.length).map (fun i => (s.getD i vnull).sv) = s.map V.sv := by
    apply List.ext_getElem
    · simp
    · intro i h1 h2
      simp only [List.length_map] at h2
      simp [h2]
  rw [e]; exact hk
theorem allOnes_vals : ∀ s : List V, allOnes (s.map V.sv) = true
  | [] => rfl
  | b :: r => by
    show (allOne (V.sv b).cells && allOnes (r.map V.sv)) = true
    rw [allOnes_vals r]; rfl
/-- Values put behind a list that is made and empty. -/
theorem app_first {m i : Nat} {a : List V} {sk : Sk} {l : List (Nat × AObj)} {k : SV → Heap → Prop} (ho : objL l i = some (.vec 0 3 [] sk)) (h0 : 0 < a.length) (ha : a.length ≤ 2000000)
    (hk : k (.sl m 0 3 0 a.length none) ⟨m + 1, (m, .vec 0 3 (a.map V.sv) ⟨true, some 65⟩) :: l⟩) :
    appendK 65 3 32 ⟨m, l⟩ (.sl i 0 3 0 0 (some 0)) (lstV a) k := by
  refine append_cap elems_vals (by simpa using h0) (allOnes_vals a) ho (by simp) (by simp; omega) (by simp; omega) (by simp; omega) ?_
  rw [List.length_map, Nat.zero_add]
  exact hk
theorem app_more {m i g : Nat} {vs a : List V} {l : List (Nat × AObj)} {k : SV → Heap → Prop} (ho : objL l i = some (.vec g 3 (vs.map V.sv) ⟨true, some 65⟩)) (h0 : 0 < a.length) (ha : vs.length + a.length ≤ 4000000)
    (hk : k (.sl i (g + 1) 3 0 (vs ++ a).length none) ⟨m, putO l i (.vec (g + 1) 3 ((vs ++ a).map V.sv) ⟨true, some 65⟩)⟩) :
    appendK 65 3 32 ⟨m, l⟩ (.sl i g 3 0 vs.length none) (lstV a) k := by
  refine append_mv elems_vals (by simpa using h0) (allOnes_vals a) ho (by simp) (by simp; omega) (by simp; omega) ?_
  refine setO_run ?_
  rw [joinTy_self, ← List.map_append, List.length_map, ← List.length_append]
  exact hk
theorem tuple_row {vs : List V} {T : List UInt8} {E : Int} (hin : ∀ v ∈ vs, v.In') (hlen : vs.length ≤ 4000000) (hT : tupT vs = T) (hE : tupE vs = E) {m i g n : Nat} {cap : Option Nat} {l : List (Nat × AObj)} {sk : Sk} {R : AEnd → Heap → Prop} (hn : n = vs.length)
    (ho : objL l i = some (.vec g 3 (vs.map V.sv) sk)) (hR : R (.ret (tu2 T E)) ⟨m, offL (fun j => Nat.beq j i) l⟩) : ACall Tryd.prog 27 [.sl i g 3 0 n cap] ⟨m, l⟩ R := by
  subst hT hE
  refine ACall.freeze (fun j => Nat.beq j i) (.cons (hard_vs (s := vs) (sk := sk) ?_ hn) .nil) ?_
  · show objL (onL _ l) i = _
    rw [objL_on, if_pos (Nat.beq_refl i)]; exact ho
  · rw [offK_eq]
    exact PCall.call (tuple_any hin (by omega)) hR
theorem same_pre {a b : List V} {x : Int} {n : Nat} {l : List (Nat × AObj)} {R : AEnd → Heap → Prop} (hx : x = (a.length : Int)) (hab : a.length ≤ b.length) (ha : a.length ≤ 4000000) (hR : R (.ret (.bool (sameL (b.take a.length) a))) ⟨n, l⟩) :
    ACall Tryd.prog 28 [.lst 3 (x.toNat - Int.toNat 0) (fun i => (fun i => (b.getD i vnull).sv) (Int.toNat 0 + i)), lstV a] ⟨n, l⟩ R := by
  subst hx
  have e : (a.length : Int).toNat - Int.toNat 0 = (b.take a.length).length := by rw [Int.toNat_natCast, List.length_take]; show a.length - 0 = _; omega
  rw [e]
  have hh : Hard (Heap.mk n (onL (fun _ => false) l)) (.lst 3 (b.take a.length).length fun i => (fun i => (b.getD i vnull).sv) (Int.toNat 0 + i)) (lstV (b.take a.length)) := by
    refine .same fun j hj => ?_
    show (b.getD (0 + j) vnull).sv = ((b.take a.length).getD j vnull).sv
    rw [Nat.zero_add]
    have hj2 : j < a.length := by rw [List.length_take] at hj; omega
    simp [List.getD, List.getElem?_take, hj2]
  refine ACall.freeze (fun _ => false) (.cons hh (.cons (.lit (.lst _ _ _)) .nil)) ?_
  rw [offK_eq]
  have : offL (fun _ => false) l = l := by
    clear hR hh e
    induction l with
    | nil => rfl
    | cons p r ih => obtain ⟨i, o⟩ := p; show (i, o) :: offL (fun _ => false) r = _; rw [ih]
  rw [this]
  exact PCall.call (sameValues_any (by rw [List.length_take]; omega)) hR
theorem tup_ok {l : List V} (h : tupE l = 0) : l.length ≤ 16 ∧ l.all okV = true ∧ tupT l = l.flatMap textB := by
  unfold tupE at h
  unfold tupT
  split at h
  · omega
  · rename_i h16
    cases hk : l.all okV
    · rw [hk] at h; simp at h
    · rw [if_neg h16]; exact ⟨by omega, rfl, rfl⟩
theorem begins_err {a more b : List V} (ia : ∀ v ∈ a, v.In') (im : ∀ v ∈ more, v.In') (ib : ∀ v ∈ b, v.In') (ha : a.length ≤ 2000000) (hm : more.length ≤ 2000000) (hb : b.length ≤ 2000000) (he : ¬ tupE a = 0) : PCall Tryd.prog 6 [lstV a, lstV more, lstV b] (.bool true) := by
  have iam : ∀ v ∈ a ++ more, v.In' := fun v hv => (List.mem_append.1 hv).elim (ia v) (im v)
  have ca := tuple_any ia (by omega)
  have cb := tuple_any ib (by omega)
  have cg := begins_any ia (by omega)
  have lit : ∀ x ∈ [lstV a, lstV more, lstV b], LitV x := lits3 (.lst _ _ _) (.lst _ _ _) (.lst _ _ _)
  obtain ⟨T, hT⟩ : ∃ T, tupT (a ++ more) = T := ⟨_, rfl⟩
  obtain ⟨E, hE⟩ : ∃ E, tupE (a ++ more) = E := ⟨_, rfl⟩
  have q1 : (tupE a != 0) = true := by rw [bne_iff_ne]; exact he
  refine pcall_of lit (call6 rfl ?_)
  by_cases a0 : a = []
  · subst a0; exact absurd rfl he
  have ap : 0 < a.length := by cases a with | nil => exact absurd rfl a0 | cons c r => simp
  by_cases m0 : more = []
  · subst m0
    rw [List.append_nil] at hT hE
    iterate 40 (all_goals (try conv => whnf); all_goals (try first | with_reducible refine brY (by assumption) ?_ | with_reducible refine brN (by assumption) ?_ | (with_reducible refine brT ?_ ?_; · (simp only [Bool.and_eq_true, Bool.not_eq_true', decide_eq_true_eq, decide_eq_false_iff_not, beq_iff_eq, beq_eq_false_iff_ne, ne_eq] at *; omega)) | with_reducible refine br (fun _ => ?_) (fun _ => ?_) | with_reducible refine ⟨rfl, ?_⟩ | with_reducible refine ARound.succ ?_ | with_reducible refine PCall.call (lives_any) ?_ | with_reducible refine PCall.call (ca) ?_ | with_reducible refine PCall.call (cb) ?_ | with_reducible refine PCall.call (cg) ?_ | (refine append_noneS (fun k hk => hk) rfl ?_) | (refine app_first rfl ap ha ?_) | (refine tuple_row (vs := a) ia (by omega) hT hE rfl rfl ?_)))
    exact leaf (by rw [beq_self_eq_true]) (.bool _)
  have mp : 0 < more.length := by cases more with | nil => exact absurd rfl m0 | cons c r => simp
  iterate 40 (all_goals (try conv => whnf); all_goals (try first | with_reducible refine brY (by assumption) ?_ | with_reducible refine brN (by assumption) ?_ | (with_reducible refine brT ?_ ?_; · (simp only [Bool.and_eq_true, Bool.not_eq_true', decide_eq_true_eq, decide_eq_false_iff_not, beq_iff_eq, beq_eq_false_iff_ne, ne_eq] at *; omega)) | with_reducible refine br (fun _ => ?_) (fun _ => ?_) | with_reducible refine ⟨rfl, ?_⟩ | with_reducible refine ARound.succ ?_ | with_reducible refine PCall.call (lives_any) ?_ | with_reducible refine PCall.call (ca) ?_ | with_reducible refine PCall.call (cb) ?_ | with_reducible refine PCall.call (cg) ?_ | (refine app_first rfl ap ha ?_) | (refine app_more (vs := a) rfl mp (by omega) ?_) | (refine tuple_row (vs := a ++ more) iam (by simp; omega) hT hE rfl rfl ?_)))
  exact leaf (by rw [beq_self_eq_true]) (.bool _)
/-- What the law looks at, in words of the lists. -/
structure BgF (a b : List V) (S A U T : List UInt8) (E B : Int) : Prop where
  hl : S.length ≤ 4800
  hlb : U.length ≤ 4800
  q1 : inB S S A = true
  q2 : E = 0 → inB T S A = true
  k1 : inB U S A = (decide (S.length ≤ U.length) && (U.take S.length == S))
  k2 : B = 0 → (inB U S A = true ↔ a.length ≤ b.length ∧ b.take a.length = a)
theorem bgF {a more b : List V} {T : List UInt8} {E : Int} (ia : ∀ v ∈ a, v.In') (ib : ∀ v ∈ b, v.In') (he : tupE a = 0) (hT : tupT (a ++ more) = T) (hE : tupE (a ++ more) = E) : BgF a b (tupT a) (afterR (tupT a)) (tupT b) T E (tupE b) := by
  obtain ⟨a1, a2, a3⟩ := tup_ok he
  refine ⟨tupT_len a, tupT_len b, ?_, fun h0 => ?_, by rw [in_after, prefix_take], fun h0 => ?_⟩
  · rw [in_after, List.isPrefixOf_iff_prefix]; exact List.prefix_refl _
  · obtain ⟨_, _, t3⟩ := tup_ok (hE.trans h0)
    rw [in_after, List.isPrefixOf_iff_prefix, ← hT, t3, a3, List.flatMap_append]
    exact List.prefix_append _ _
  · obtain ⟨_, b2, b3⟩ := tup_ok h0
    rw [in_after, b3, a3]
    exact flat_prefix a2 b2 ia ib
theorem begins_111 {a more b : List V} {T S A U : List UInt8} {E B : Int} (iv : ∀ v ∈ ([] : List V), v.In') (hb : b.length ≤ 2000000) (hT : tupT (([] : List V)) = T) (hE : tupE (([] : List V)) = E) (hf : BgF (([] : List V)) b S A U T E B)
    (ca : PCall Tryd.prog 27 [lstV ([] : List V)] (tu2 S 0)) (cb : PCall Tryd.prog 27 [lstV b] (tu2 U B)) (cg : PCall Tryd.prog 26 [lstV ([] : List V)] (spV S A 0)) (hab : ([] : List V).length ≤ b.length) : PCall Tryd.prog 6 [lstV ([] : List V), lstV ([] : List V), lstV b] (.bool true) := by
  obtain ⟨hl, hlb, q1, q2, k1, k2⟩ := hf
  have q1' : (!inB S S A) = false := by rw [q1]; rfl
  have hS : (S.length ≤ U.length ∧ decide ((S.length : Int) ≤ (U.length : Int)) = true ∧ List.take ((if (U.length : Int) < (S.length : Int) then (U.length : Int) else (S.length : Int)).toNat - Int.toNat 0) (List.drop (Int.toNat 0) U) = U.take S.length)
      ∨ (¬ S.length ≤ U.length ∧ decide ((S.length : Int) ≤ (U.length : Int)) = false) := by
    by_cases h : S.length ≤ U.length
    · exact .inl ⟨h, decide_eq_true (by omega), by rw [if_neg (by omega), Int.toNat_natCast]; rfl⟩
    · exact .inr ⟨h, decide_eq_false (by omega)⟩
  have hd : decide ((([] : List V).length : Int) ≤ (b.length : Int)) = true := decide_eq_true (by omega)
  have hi : (if (b.length : Int) < (([] : List V).length : Int) then (b.length : Int) else (([] : List V).length : Int)) = (([] : List V).length : Int) := if_neg (by omega)
  have hvl : (([] : List V)).length ≤ 4000000 := by first | omega | (simp; done) | (simp; omega)
  have hal : (([] : List V)).length ≤ 4000000 := by first | omega | (simp; done)
  refine pcall_of (lits3 (.lst _ _ _) (.lst _ _ _) (.lst _ _ _)) (call6 rfl ?_)
  rcases hS with ⟨hS, hdS, ht⟩ | ⟨hS, hdS⟩
  case' inl =>
    have k1 : inB U S A = (U.take S.length == S) := by rw [k1, decide_eq_true hS]; rfl
    have r1 : (inB U S A == (List.take ((if (U.length : Int) < (S.length : Int) then (U.length : Int) else (S.length : Int)).toNat - Int.toNat 0) (List.drop (Int.toNat 0) U) == S)) = true := by rw [ht, k1, beq_self_eq_true]
    have rfin : B = 0 → ((List.take ((if (U.length : Int) < (S.length : Int) then (U.length : Int) else (S.length : Int)).toNat - Int.toNat 0) (List.drop (Int.toNat 0) U) == S) == sameL (b.take ([] : List V).length) ([] : List V)) = true := fun h0 => by
      have k2 := k2 h0
      have e : (List.take ((if (U.length : Int) < (S.length : Int) then (U.length : Int) else (S.length : Int)).toNat - Int.toNat 0) (List.drop (Int.toNat 0) U) == S) = inB U S A := by first | (rw [k1]; done) | (rw [ht, k1]; done)
      rw [e]
      by_cases hh : b.take ([] : List V).length = ([] : List V)
      · rw [k2.2 ⟨hab, hh⟩, hh, sameL_self]; rfl
      · rw [sameL_no hh, Bool.eq_false_iff.2 fun h => hh (k2.1 h).2]; rfl
  case' inr =>
    have k1 : inB U S A = false := by rw [k1, decide_eq_false hS]; rfl
    have r1 : (inB U S A == false) = true := by rw [k1]; rfl
    have rfin : B = 0 → (false == sameL (b.take ([] : List V).length) ([] : List V)) = true := fun h0 => by
      have k2 := k2 h0
      have e : false = inB U S A := by first | (rw [k1]; done) | (rw [ht, k1]; done)
      rw [e]
      by_cases hh : b.take ([] : List V).length = ([] : List V)
      · rw [k2.2 ⟨hab, hh⟩, hh, sameL_self]; rfl
      · rw [sameL_no hh, Bool.eq_false_iff.2 fun h => hh (k2.1 h).2]; rfl
  iterate 60 (all_goals (try conv => whnf); all_goals (try first | with_reducible refine brY (by assumption) ?_ | with_reducible refine brN (by assumption) ?_ | (with_reducible refine brT ?_ ?_; · (simp only [Bool.and_eq_true, Bool.not_eq_true', decide_eq_true_eq, decide_eq_false_iff_not, beq_iff_eq, beq_eq_false_iff_ne, ne_eq] at *; omega)) | with_reducible refine br (fun _ => ?_) (fun _ => ?_) | with_reducible refine ⟨rfl, ?_⟩ | with_reducible refine ARound.succ ?_ | with_reducible refine PCall.call (lives_any) ?_ | with_reducible refine PCall.call (ca) ?_ | with_reducible refine PCall.call (cb) ?_ | with_reducible refine PCall.call (cg) ?_ | with_reducible refine PCall.call (in_any _ _ _) ?_ | (refine append_noneS (fun k hk => hk) rfl ?_) | (refine tuple_row (vs := ([] : List V)) iv hvl hT hE rfl rfl ?_) | (refine same_pre (a := ([] : List V)) (b := b) hi hab hal ?_)))
  all_goals first
    | exact leaf rfl (.bool _)
    | exact leaf (congrArg SV.bool (rfin (bne_eq_false_iff_eq.1 (by assumption)))) (.bool _)
    | (exfalso
       have hx : (!inB T S A) = true := by assumption
       rw [q2 (beq_iff_eq.1 (by assumption))] at hx
       cases hx)
theorem begins_110 {a more b : List V} {T S A U : List UInt8} {E B : Int} (iv : ∀ v ∈ more, v.In') (hb : b.length ≤ 2000000) (mp : 0 < more.length) (hm : more.length ≤ 2000000) (hT : tupT (more) = T) (hE : tupE (more) = E) (hf : BgF (([] : List V)) b S A U T E B)
    (ca : PCall Tryd.prog 27 [lstV ([] : List V)] (tu2 S 0)) (cb : PCall Tryd.prog 27 [lstV b] (tu2 U B)) (cg : PCall Tryd.prog 26 [lstV ([] : List V)] (spV S A 0)) (hab : ([] : List V).length ≤ b.length) : PCall Tryd.prog 6 [lstV ([] : List V), lstV more, lstV b] (.bool true) := by
  obtain ⟨hl, hlb, q1, q2, k1, k2⟩ := hf
  have q1' : (!inB S S A) = false := by rw [q1]; rfl
  have hS : (S.length ≤ U.length ∧ decide ((S.length : Int) ≤ (U.length : Int)) = true ∧ List.take ((if (U.length : Int) < (S.length : Int) then (U.length : Int) else (S.length : Int)).toNat - Int.toNat 0) (List.drop (Int.toNat 0) U) = U.take S.length)
      ∨ (¬ S.length ≤ U.length ∧ decide ((S.length : Int) ≤ (U.length : Int)) = false) := by
    by_cases h : S.length ≤ U.length
    · exact .inl ⟨h, decide_eq_true (by omega), by rw [if_neg (by omega), Int.toNat_natCast]; rfl⟩
    · exact .inr ⟨h, decide_eq_false (by omega)⟩
  have hd : decide ((([] : List V).length : Int) ≤ (b.length : Int)) = true := decide_eq_true (by omega)
  have hi : (if (b.length : Int) < (([] : List V).length : Int) then (b.length : Int) else (([] : List V).length : Int)) = (([] : List V).length : Int) := if_neg (by omega)
  have hvl : (more).length ≤ 4000000 := by first | omega | (simp; done) | (simp; omega)
  have hal : (([] : List V)).length ≤ 4000000 := by first | omega | (simp; done)
  refine pcall_of (lits3 (.lst _ _ _) (.lst _ _ _) (.lst _ _ _)) (call6 rfl ?_)
  rcases hS with ⟨hS, hdS, ht⟩ | ⟨hS, hdS⟩
  case' inl =>
    have k1 : inB U S A = (U.take S.length == S) := by rw [k1, decide_eq_true hS]; rfl
    have r1 : (inB U S A == (List.take ((if (U.length : Int) < (S.length : Int) then (U.length : Int) else (S.length : Int)).toNat - Int.toNat 0) (List.drop (Int.toNat 0) U) == S)) = true := by rw [ht, k1, beq_self_eq_true]
    have rfin : B = 0 → ((List.take ((if (U.length : Int) < (S.length : Int) then (U.length : Int) else (S.length : Int)).toNat - Int.toNat 0) (List.drop (Int.toNat 0) U) == S) == sameL (b.take ([] : List V).length) ([] : List V)) = true := fun h0 => by
      have k2 := k2 h0
      have e : (List.take ((if (U.length : Int) < (S.length : Int) then (U.length : Int) else (S.length : Int)).toNat - Int.toNat 0) (List.drop (Int.toNat 0) U) == S) = inB U S A := by first | (rw [k1]; done) | (rw [ht, k1]; done)
      rw [e]
      by_cases hh : b.take ([] : List V).length = ([] : List V)
      · rw [k2.2 ⟨hab, hh⟩, hh, sameL_self]; rfl
      · rw [sameL_no hh, Bool.eq_false_iff.2 fun h => hh (k2.1 h).2]; rfl
  case' inr =>
    have k1 : inB U S A = false := by rw [k1, decide_eq_false hS]; rfl
    have r1 : (inB U S A == false) = true := by rw [k1]; rfl
    have rfin : B = 0 → (false == sameL (b.take ([] : List V).length) ([] : List V)) = true := fun h0 => by
      have k2 := k2 h0
      have e : false = inB U S A := by first | (rw [k1]; done) | (rw [ht, k1]; done)
      rw [e]
      by_cases hh : b.take ([] : List V).length = ([] : List V)
      · rw [k2.2 ⟨hab, hh⟩, hh, sameL_self]; rfl
      · rw [sameL_no hh, Bool.eq_false_iff.2 fun h => hh (k2.1 h).2]; rfl
  iterate 60 (all_goals (try conv => whnf); all_goals (try first | with_reducible refine brY (by assumption) ?_ | with_reducible refine brN (by assumption) ?_ | (with_reducible refine brT ?_ ?_; · (simp only [Bool.and_eq_true, Bool.not_eq_true', decide_eq_true_eq, decide_eq_false_iff_not, beq_iff_eq, beq_eq_false_iff_ne, ne_eq] at *; omega)) | with_reducible refine br (fun _ => ?_) (fun _ => ?_) | with_reducible refine ⟨rfl, ?_⟩ | with_reducible refine ARound.succ ?_ | with_reducible refine PCall.call (lives_any) ?_ | with_reducible refine PCall.call (ca) ?_ | with_reducible refine PCall.call (cb) ?_ | with_reducible refine PCall.call (cg) ?_ | with_reducible refine PCall.call (in_any _ _ _) ?_ | (refine append_noneS (fun k hk => hk) rfl ?_) | (refine app_first (a := more) rfl mp hm ?_) | (refine tuple_row (vs := more) iv hvl hT hE rfl rfl ?_) | (refine same_pre (a := ([] : List V)) (b := b) hi hab hal ?_)))
  all_goals first
    | exact leaf rfl (.bool _)
    | exact leaf (congrArg SV.bool (rfin (bne_eq_false_iff_eq.1 (by assumption)))) (.bool _)
    | (exfalso
       have hx : (!inB T S A) = true := by assumption
       rw [q2 (beq_iff_eq.1 (by assumption))] at hx
       cases hx)
theorem begins_101 {a more b : List V} {T S A U : List UInt8} {E B : Int} (iv : ∀ v ∈ a, v.In') (hb : b.length ≤ 2000000) (ap : 0 < a.length) (ha : a.length ≤ 2000000) (hT : tupT (a) = T) (hE : tupE (a) = E) (hf : BgF (a) b S A U T E B)
    (ca : PCall Tryd.prog 27 [lstV a] (tu2 S 0)) (cb : PCall Tryd.prog 27 [lstV b] (tu2 U B)) (cg : PCall Tryd.prog 26 [lstV a] (spV S A 0)) (hab : a.length ≤ b.length) : PCall Tryd.prog 6 [lstV a, lstV ([] : List V), lstV b] (.bool true) := by
  obtain ⟨hl, hlb, q1, q2, k1, k2⟩ := hf
  have q1' : (!inB S S A) = false := by rw [q1]; rfl
  have hS : (S.length ≤ U.length ∧ decide ((S.length : Int) ≤ (U.length : Int)) = true ∧ List.take ((if (U.length : Int) < (S.length : Int) then (U.length : Int) else (S.length : Int)).toNat - Int.toNat 0) (List.drop (Int.toNat 0) U) = U.take S.length)
      ∨ (¬ S.length ≤ U.length ∧ decide ((S.length : Int) ≤ (U.length : Int)) = false) := by
    by_cases h : S.length ≤ U.length
    · exact .inl ⟨h, decide_eq_true (by omega), by rw [if_neg (by omega), Int.toNat_natCast]; rfl⟩
    · exact .inr ⟨h, decide_eq_false (by omega)⟩
  have hd : decide ((a.length : Int) ≤ (b.length : Int)) = true := decide_eq_true (by omega)
  have hi : (if (b.length : Int) < (a.length : Int) then (b.length : Int) else (a.length : Int)) = (a.length : Int) := if_neg (by omega)
  have hvl : (a).length ≤ 4000000 := by first | omega | (simp; done) | (simp; omega)
  have hal : (a).length ≤ 4000000 := by first | omega | (simp; done)
  refine pcall_of (lits3 (.lst _ _ _) (.lst _ _ _) (.lst _ _ _)) (call6 rfl ?_)
  rcases hS with ⟨hS, hdS, ht⟩ | ⟨hS, hdS⟩
  case' inl =>
    have k1 : inB U S A = (U.take S.length == S) := by rw [k1, decide_eq_true hS]; rfl
    have r1 : (inB U S A == (List.take ((if (U.length : Int) < (S.length : Int) then (U.length : Int) else (S.length : Int)).toNat - Int.toNat 0) (List.drop (Int.toNat 0) U) == S)) = true := by rw [ht, k1, beq_self_eq_true]
    have rfin : B = 0 → ((List.take ((if (U.length : Int) < (S.length : Int) then (U.length : Int) else (S.length : Int)).toNat - Int.toNat 0) (List.drop (Int.toNat 0) U) == S) == sameL (b.take a.length) a) = true := fun h0 => by
      have k2 := k2 h0
      have e : (List.take ((if (U.length : Int) < (S.length : Int) then (U.length : Int) else (S.length : Int)).toNat - Int.toNat 0) (List.drop (Int.toNat 0) U) == S) = inB U S A := by first | (rw [k1]; done) | (rw [ht, k1]; done)
      rw [e]
      by_cases hh : b.take a.length = a
      · rw [k2.2 ⟨hab, hh⟩, hh, sameL_self]; rfl
      · rw [sameL_no hh, Bool.eq_false_iff.2 fun h => hh (k2.1 h).2]; rfl
  case' inr =>
    have k1 : inB U S A = false := by rw [k1, decide_eq_false hS]; rfl
    have r1 : (inB U S A == false) = true := by rw [k1]; rfl
    have rfin : B = 0 → (false == sameL (b.take a.length) a) = true := fun h0 => by
      have k2 := k2 h0
      have e : false = inB U S A := by first | (rw [k1]; done) | (rw [ht, k1]; done)
      rw [e]
      by_cases hh : b.take a.length = a
      · rw [k2.2 ⟨hab, hh⟩, hh, sameL_self]; rfl
      · rw [sameL_no hh, Bool.eq_false_iff.2 fun h => hh (k2.1 h).2]; rfl
  iterate 60 (all_goals (try conv => whnf); all_goals (try first | with_reducible refine brY (by assumption) ?_ | with_reducible refine brN (by assumption) ?_ | (with_reducible refine brT ?_ ?_; · (simp only [Bool.and_eq_true, Bool.not_eq_true', decide_eq_true_eq, decide_eq_false_iff_not, beq_iff_eq, beq_eq_false_iff_ne, ne_eq] at *; omega)) | with_reducible refine br (fun _ => ?_) (fun _ => ?_) | with_reducible refine ⟨rfl, ?_⟩ | with_reducible refine ARound.succ ?_ | with_reducible refine PCall.call (lives_any) ?_ | with_reducible refine PCall.call (ca) ?_ | with_reducible refine PCall.call (cb) ?_ | with_reducible refine PCall.call (cg) ?_ | with_reducible refine PCall.call (in_any _ _ _) ?_ | (refine append_noneS (fun k hk => hk) rfl ?_) | (refine app_first (a := a) rfl ap ha ?_) | (refine tuple_row (vs := a) iv hvl hT hE rfl rfl ?_) | (refine same_pre (a := a) (b := b) hi hab hal ?_)))
  all_goals first
    | exact leaf rfl (.bool _)
    | exact leaf (congrArg SV.bool (rfin (bne_eq_false_iff_eq.1 (by assumption)))) (.bool _)
    | (exfalso
       have hx : (!inB T S A) = true := by assumption
       rw [q2 (beq_iff_eq.1 (by assumption))] at hx
       cases hx)
theorem begins_100 {a more b : List V} {T S A U : List UInt8} {E B : Int} (iv : ∀ v ∈ a ++ more, v.In') (hb : b.length ≤ 2000000) (ap : 0 < a.length) (ha : a.length ≤ 2000000) (mp : 0 < more.length) (hm : more.length ≤ 2000000) (hT : tupT (a ++ more) = T) (hE : tupE (a ++ more) = E) (hf : BgF (a) b S A U T E B)
    (ca : PCall Tryd.prog 27 [lstV a] (tu2 S 0)) (cb : PCall Tryd.prog 27 [lstV b] (tu2 U B)) (cg : PCall Tryd.prog 26 [lstV a] (spV S A 0)) (hab : a.length ≤ b.length) : PCall Tryd.prog 6 [lstV a, lstV more, lstV b] (.bool true) := by
  obtain ⟨hl, hlb, q1, q2, k1, k2⟩ := hf
  have q1' : (!inB S S A) = false := by rw [q1]; rfl
  have hS : (S.length ≤ U.length ∧ decide ((S.length : Int) ≤ (U.length : Int)) = true ∧ List.take ((if (U.length : Int) < (S.length : Int) then (U.length : Int) else (S.length : Int)).toNat - Int.toNat 0) (List.drop (Int.toNat 0) U) = U.take S.length)
      ∨ (¬ S.length ≤ U.length ∧ decide ((S.length : Int) ≤ (U.length : Int)) = false) := by
    by_cases h : S.length ≤ U.length
    · exact .inl ⟨h, decide_eq_true (by omega), by rw [if_neg (by omega), Int.toNat_natCast]; rfl⟩
    · exact .inr ⟨h, decide_eq_false (by omega)⟩
  have hd : decide ((a.length : Int) ≤ (b.length : Int)) = true := decide_eq_true (by omega)
  have hi : (if (b.length : Int) < (a.length : Int) then (b.length : Int) else (a.length : Int)) = (a.length : Int) := if_neg (by omega)
  have hvl : (a ++ more).length ≤ 4000000 := by first | omega | (simp; done) | (simp; omega)
  have hal : (a).length ≤ 4000000 := by first | omega | (simp; done)
  refine pcall_of (lits3 (.lst _ _ _) (.lst _ _ _) (.lst _ _ _)) (call6 rfl ?_)
  rcases hS with ⟨hS, hdS, ht⟩ | ⟨hS, hdS⟩
  case' inl =>
    have k1 : inB U S A = (U.take S.length == S) := by rw [k1, decide_eq_true hS]; rfl
    have r1 : (inB U S A == (List.take ((if (U.length : Int) < (S.length : Int) then (U.length : Int) else (S.length : Int)).toNat - Int.toNat 0) (List.drop (Int.toNat 0) U) == S)) = true := by rw [ht, k1, beq_self_eq_true]
    have rfin : B = 0 → ((List.take ((if (U.length : Int) < (S.length : Int) then (U.length : Int) else (S.length : Int)).toNat - Int.toNat 0) (List.drop (Int.toNat 0) U) == S) == sameL (b.take a.length) a) = true := fun h0 => by
      have k2 := k2 h0
      have e : (List.take ((if (U.length : Int) < (S.length : Int) then (U.length : Int) else (S.length : Int)).toNat - Int.toNat 0) (List.drop (Int.toNat 0) U) == S) = inB U S A := by first | (rw [k1]; done) | (rw [ht, k1]; done)
      rw [e]
      by_cases hh : b.take a.length = a
      · rw [k2.2 ⟨hab, hh⟩, hh, sameL_self]; rfl
      · rw [sameL_no hh, Bool.eq_false_iff.2 fun h => hh (k2.1 h).2]; rfl
  case' inr =>
    have k1 : inB U S A = false := by rw [k1, decide_eq_false hS]; rfl
    have r1 : (inB U S A == false) = true := by rw [k1]; rfl
    have rfin : B = 0 → (false == sameL (b.take a.length) a) = true := fun h0 => by
      have k2 := k2 h0
      have e : false = inB U S A := by first | (rw [k1]; done) | (rw [ht, k1]; done)
      rw [e]
      by_cases hh : b.take a.length = a
      · rw [k2.2 ⟨hab, hh⟩, hh, sameL_self]; rfl
      · rw [sameL_no hh, Bool.eq_false_iff.2 fun h => hh (k2.1 h).2]; rfl
  iterate 60 (all_goals (try conv => whnf); all_goals (try first | with_reducible refine brY (by assumption) ?_ | with_reducible refine brN (by assumption) ?_ | (with_reducible refine brT ?_ ?_; · (simp only [Bool.and_eq_true, Bool.not_eq_true', decide_eq_true_eq, decide_eq_false_iff_not, beq_iff_eq, beq_eq_false_iff_ne, ne_eq] at *; omega)) | with_reducible refine br (fun _ => ?_) (fun _ => ?_) | with_reducible refine ⟨rfl, ?_⟩ | with_reducible refine ARound.succ ?_ | with_reducible refine PCall.call (lives_any) ?_ | with_reducible refine PCall.call (ca) ?_ | with_reducible refine PCall.call (cb) ?_ | with_reducible refine PCall.call (cg) ?_ | with_reducible refine PCall.call (in_any _ _ _) ?_ | (refine append_noneS (fun k hk => hk) rfl ?_) | (refine app_first (a := a) rfl ap ha ?_) | (refine app_more (vs := a) rfl mp (by omega) ?_) | (refine tuple_row (vs := a ++ more) iv hvl hT hE rfl rfl ?_) | (refine same_pre (a := a) (b := b) hi hab hal ?_)))
  all_goals first
    | exact leaf rfl (.bool _)
    | exact leaf (congrArg SV.bool (rfin (bne_eq_false_iff_eq.1 (by assumption)))) (.bool _)
    | (exfalso
       have hx : (!inB T S A) = true := by assumption
       rw [q2 (beq_iff_eq.1 (by assumption))] at hx
       cases hx)
theorem begins_001 {a more b : List V} {T S A U : List UInt8} {E B : Int} (iv : ∀ v ∈ a, v.In') (hb : b.length ≤ 2000000) (ap : 0 < a.length) (ha : a.length ≤ 2000000) (hT : tupT (a) = T) (hE : tupE (a) = E) (hf : BgF (a) b S A U T E B)
    (ca : PCall Tryd.prog 27 [lstV a] (tu2 S 0)) (cb : PCall Tryd.prog 27 [lstV b] (tu2 U B)) (cg : PCall Tryd.prog 26 [lstV a] (spV S A 0)) (hab : ¬ a.length ≤ b.length) : PCall Tryd.prog 6 [lstV a, lstV ([] : List V), lstV b] (.bool true) := by
  obtain ⟨hl, hlb, q1, q2, k1, k2⟩ := hf
  have q1' : (!inB S S A) = false := by rw [q1]; rfl
  have hS : (S.length ≤ U.length ∧ decide ((S.length : Int) ≤ (U.length : Int)) = true ∧ List.take ((if (U.length : Int) < (S.length : Int) then (U.length : Int) else (S.length : Int)).toNat - Int.toNat 0) (List.drop (Int.toNat 0) U) = U.take S.length)
      ∨ (¬ S.length ≤ U.length ∧ decide ((S.length : Int) ≤ (U.length : Int)) = false) := by
    by_cases h : S.length ≤ U.length
    · exact .inl ⟨h, decide_eq_true (by omega), by rw [if_neg (by omega), Int.toNat_natCast]; rfl⟩
    · exact .inr ⟨h, decide_eq_false (by omega)⟩
  have hd : decide ((a.length : Int) ≤ (b.length : Int)) = false := decide_eq_false (by omega)
  have hvl : (a).length ≤ 4000000 := by first | omega | (simp; done) | (simp; omega)
  have hal : (a).length ≤ 4000000 := by first | omega | (simp; done)
  refine pcall_of (lits3 (.lst _ _ _) (.lst _ _ _) (.lst _ _ _)) (call6 rfl ?_)
  rcases hS with ⟨hS, hdS, ht⟩ | ⟨hS, hdS⟩
  case' inl =>
    have k1 : inB U S A = (U.take S.length == S) := by rw [k1, decide_eq_true hS]; rfl
    have r1 : (inB U S A == (List.take ((if (U.length : Int) < (S.length : Int) then (U.length : Int) else (S.length : Int)).toNat - Int.toNat 0) (List.drop (Int.toNat 0) U) == S)) = true := by rw [ht, k1, beq_self_eq_true]
    have rfin : B = 0 → ((List.take ((if (U.length : Int) < (S.length : Int) then (U.length : Int) else (S.length : Int)).toNat - Int.toNat 0) (List.drop (Int.toNat 0) U) == S) == false) = true := fun h0 => by
      have k2 := k2 h0
      have e : (List.take ((if (U.length : Int) < (S.length : Int) then (U.length : Int) else (S.length : Int)).toNat - Int.toNat 0) (List.drop (Int.toNat 0) U) == S) = inB U S A := by first | (rw [k1]; done) | (rw [ht, k1]; done)
      rw [e, Bool.eq_false_iff.2 fun h => hab (k2.1 h).1]; rfl
  case' inr =>
    have k1 : inB U S A = false := by rw [k1, decide_eq_false hS]; rfl
    have r1 : (inB U S A == false) = true := by rw [k1]; rfl
    have rfin : B = 0 → (false == false) = true := fun h0 => by
      have k2 := k2 h0
      have e : false = inB U S A := by first | (rw [k1]; done) | (rw [ht, k1]; done)
      rw [e, Bool.eq_false_iff.2 fun h => hab (k2.1 h).1]; rfl
  iterate 60 (all_goals (try conv => whnf); all_goals (try first | with_reducible refine brY (by assumption) ?_ | with_reducible refine brN (by assumption) ?_ | (with_reducible refine brT ?_ ?_; · (simp only [Bool.and_eq_true, Bool.not_eq_true', decide_eq_true_eq, decide_eq_false_iff_not, beq_iff_eq, beq_eq_false_iff_ne, ne_eq] at *; omega)) | with_reducible refine br (fun _ => ?_) (fun _ => ?_) | with_reducible refine ⟨rfl, ?_⟩ | with_reducible refine ARound.succ ?_ | with_reducible refine PCall.call (lives_any) ?_ | with_reducible refine PCall.call (ca) ?_ | with_reducible refine PCall.call (cb) ?_ | with_reducible refine PCall.call (cg) ?_ | with_reducible refine PCall.call (in_any _ _ _) ?_ | (refine append_noneS (fun k hk => hk) rfl ?_) | (refine app_first (a := a) rfl ap ha ?_) | (refine tuple_row (vs := a) iv hvl hT hE rfl rfl ?_)))
  all_goals first
    | exact leaf rfl (.bool _)
    | exact leaf (congrArg SV.bool (rfin (bne_eq_false_iff_eq.1 (by assumption)))) (.bool _)
    | (exfalso
       have hx : (!inB T S A) = true := by assumption
       rw [q2 (beq_iff_eq.1 (by assumption))] at hx
       cases hx)
theorem begins_000 {a more b : List V} {T S A U : List UInt8} {E B : Int} (iv : ∀ v ∈ a ++ more, v.In') (hb : b.length ≤ 2000000) (ap : 0 < a.length) (ha : a.length ≤ 2000000) (mp : 0 < more.length) (hm : more.length ≤ 2000000) (hT : tupT (a ++ more) = T) (hE : tupE (a ++ more) = E) (hf : BgF (a) b S A U T E B)
    (ca : PCall Tryd.prog 27 [lstV a] (tu2 S 0)) (cb : PCall Tryd.prog 27 [lstV b] (tu2 U B)) (cg : PCall Tryd.prog 26 [lstV a] (spV S A 0)) (hab : ¬ a.length ≤ b.length) : PCall Tryd.prog 6 [lstV a, lstV more, lstV b] (.bool true) := by
  obtain ⟨hl, hlb, q1, q2, k1, k2⟩ := hf
  have q1' : (!inB S S A) = false := by rw [q1]; rfl
  have hS : (S.length ≤ U.length ∧ decide ((S.length : Int) ≤ (U.length : Int)) = true ∧ List.take ((if (U.length : Int) < (S.length : Int) then (U.length : Int) else (S.length : Int)).toNat - Int.toNat 0) (List.drop (Int.toNat 0) U) = U.take S.length)
      ∨ (¬ S.length ≤ U.length ∧ decide ((S.length : Int) ≤ (U.length : Int)) = false) := by
    by_cases h : S.length ≤ U.length
    · exact .inl ⟨h, decide_eq_true (by omega), by rw [if_neg (by omega), Int.toNat_natCast]; rfl⟩
    · exact .inr ⟨h, decide_eq_false (by omega)⟩
  have hd : decide ((a.length : Int) ≤ (b.length : Int)) = false := decide_eq_false (by omega)
  have hvl : (a ++ more).length ≤ 4000000 := by first | omega | (simp; done) | (simp; omega)
  have hal : (a).length ≤ 4000000 := by first | omega | (simp; done)
  refine pcall_of (lits3 (.lst _ _ _) (.lst _ _ _) (.lst _ _ _)) (call6 rfl ?_)
  rcases hS with ⟨hS, hdS, ht⟩ | ⟨hS, hdS⟩
  case' inl =>
    have k1 : inB U S A = (U.take S.length == S) := by rw [k1, decide_eq_true hS]; rfl
    have r1 : (inB U S A == (List.take ((if (U.length : Int) < (S.length : Int) then (U.length : Int) else (S.length : Int)).toNat - Int.toNat 0) (List.drop (Int.toNat 0) U) == S)) = true := by rw [ht, k1, beq_self_eq_true]
    have rfin : B = 0 → ((List.take ((if (U.length : Int) < (S.length : Int) then (U.length : Int) else (S.length : Int)).toNat - Int.toNat 0) (List.drop (Int.toNat 0) U) == S) == false) = true := fun h0 => by
      have k2 := k2 h0
      have e : (List.take ((if (U.length : Int) < (S.length : Int) then (U.length : Int) else (S.length : Int)).toNat - Int.toNat 0) (List.drop (Int.toNat 0) U) == S) = inB U S A := by first | (rw [k1]; done) | (rw [ht, k1]; done)
      rw [e, Bool.eq_false_iff.2 fun h => hab (k2.1 h).1]; rfl
  case' inr =>
    have k1 : inB U S A = false := by rw [k1, decide_eq_false hS]; rfl
    have r1 : (inB U S A == false) = true := by rw [k1]; rfl
    have rfin : B = 0 → (false == false) = true := fun h0 => by
      have k2 := k2 h0
      have e : false = inB U S A := by first | (rw [k1]; done) | (rw [ht, k1]; done)
      rw [e, Bool.eq_false_iff.2 fun h => hab (k2.1 h).1]; rfl
  iterate 60 (all_goals (try conv => whnf); all_goals (try first | with_reducible refine brY (by assumption) ?_ | with_reducible refine brN (by assumption) ?_ | (with_reducible refine brT ?_ ?_; · (simp only [Bool.and_eq_true, Bool.not_eq_true', decide_eq_true_eq, decide_eq_false_iff_not, beq_iff_eq, beq_eq_false_iff_ne, ne_eq] at *; omega)) | with_reducible refine br (fun _ => ?_) (fun _ => ?_) | with_reducible refine ⟨rfl, ?_⟩ | with_reducible refine ARound.succ ?_ | with_reducible refine PCall.call (lives_any) ?_ | with_reducible refine PCall.call (ca) ?_ | with_reducible refine PCall.call (cb) ?_ | with_reducible refine PCall.call (cg) ?_ | with_reducible refine PCall.call (in_any _ _ _) ?_ | (refine append_noneS (fun k hk => hk) rfl ?_) | (refine app_first (a := a) rfl ap ha ?_) | (refine app_more (vs := a) rfl mp (by omega) ?_) | (refine tuple_row (vs := a ++ more) iv hvl hT hE rfl rfl ?_)))
  all_goals first
    | exact leaf rfl (.bool _)
    | exact leaf (congrArg SV.bool (rfin (bne_eq_false_iff_eq.1 (by assumption)))) (.bool _)
    | (exfalso
       have hx : (!inB T S A) = true := by assumption
       rw [q2 (beq_iff_eq.1 (by assumption))] at hx
       cases hx)
theorem encBegins_any {a more b : List V} (ia : ∀ v ∈ a, v.In') (im : ∀ v ∈ more, v.In') (ib : ∀ v ∈ b, v.In') (ha : a.length ≤ 2000000) (hm : more.length ≤ 2000000) (hb : b.length ≤ 2000000) : PCall Tryd.prog 6 [lstV a, lstV more, lstV b] (.bool true) := by
  by_cases he : ¬ tupE a = 0
  · exact begins_err ia im ib ha hm hb he
  have he : tupE a = 0 := by omega
  have iam : ∀ v ∈ a ++ more, v.In' := fun v hv => (List.mem_append.1 hv).elim (ia v) (im v)
  have ca := tuple_any ia (by omega)
  have cb := tuple_any ib (by omega)
  have cg : PCall Tryd.prog 26 [lstV a] (spV (tupT a) (afterR (tupT a)) 0) := by
    have cg := begins_any ia (by omega)
    unfold spT spA at cg; rw [if_pos he, if_pos he, he] at cg; exact cg
  rw [he] at ca
  have hf := bgF (more := more) ia ib he rfl rfl
  by_cases a0 : a = []
  · subst a0
    by_cases m0 : more = []
    · subst m0
      exact begins_111 (a := []) (more := []) (by simp) hb rfl rfl hf ca cb cg (Nat.zero_le _)
    have mp : 0 < more.length := by cases more with | nil => exact absurd rfl m0 | cons c r => simp
    exact begins_110 (a := []) im hb mp hm rfl rfl hf ca cb cg (Nat.zero_le _)
  have ap : 0 < a.length := by cases a with | nil => exact absurd rfl a0 | cons c r => simp
  by_cases m0 : more = []
  · subst m0
    rw [List.append_nil] at hf
    by_cases hab : a.length ≤ b.length
    · exact begins_101 (more := []) ia hb ap ha rfl rfl hf ca cb cg hab
    · exact begins_001 (more := []) ia hb ap ha rfl rfl hf ca cb cg hab
  have mp : 0 < more.length := by cases more with | nil => exact absurd rfl m0 | cons c r => simp
  by_cases hab : a.length ≤ b.length
  · exact begins_100 iam hb ap ha mp hm rfl rfl hf ca cb cg hab
  · exact begins_000 iam hb ap ha mp hm rfl rfl hf ca cb cg hab
end Go.Proofs.YtcklfcagailoiaaDoor
namespace Go.Proofs.YtcklfcagailoiaaDoor
open Ab Go.RowKit
set_option linter.unusedVariables false
theorem i64_in {n : Int} (h : IntKind.i64.min ≤ n ∧ n ≤ IntKind.i64.max) : -9223372036854775808 ≤ n ∧ n ≤ 9223372036854775807 := by
  have e1 : IntKind.i64.min = -9223372036854775808 := by decide
  have e2 : IntKind.i64.max = 9223372036854775807 := by decide
  omega
theorem i32_in {n : Int} (h : IntKind.i32.min ≤ n ∧ n ≤ IntKind.i32.max) : -2147483648 ≤ n ∧ n ≤ 2147483647 := by
  have e1 : IntKind.i32.min = -2147483648 := by decide
  have e2 : IntKind.i32.max = 2147483647 := by decide
  omega
theorem u64_in {n : Int} (h : IntKind.u64.min ≤ n ∧ n ≤ IntKind.u64.max) : 0 ≤ n ∧ n ≤ 18446744073709551615 := by
  have e1 : IntKind.u64.min = 0 := by decide
  have e2 : IntKind.u64.max = 18446744073709551615 := by decide
  omega
theorem u8_in {n : Int} (h : IntKind.u8.min ≤ n ∧ n ≤ IntKind.u8.max) : 0 ≤ n ∧ n ≤ 255 := by
  have e1 : IntKind.u8.min = 0 := by decide
  have e2 : IntKind.u8.max = 255 := by decide
  omega
noncomputable def rdI64 : Rd Tryd.prog 2 Int := (Rd.int (k := .i64) Tryd.underlying2 (by kernel_rfl)).map id (fun n => [.int .i64 n]) (fun n => -9223372036854775808 ≤ n ∧ n ≤ 9223372036854775807) (fun _ => rfl) (fun _ h => i64_in h) fun _ => rfl
noncomputable def rdInt : Rd Tryd.prog 3 Int := (Rd.int (k := .i64) Tryd.underlying3 (by kernel_rfl)).map id (fun n => [.int .i64 n]) (fun n => -9223372036854775808 ≤ n ∧ n ≤ 9223372036854775807) (fun _ => rfl) (fun _ h => i64_in h) fun _ => rfl
noncomputable def rdI32 : Rd Tryd.prog 21 Int := (Rd.int (k := .i32) Tryd.underlying21 (by kernel_rfl)).map id (fun n => [.int .i32 n]) (fun n => -2147483648 ≤ n ∧ n ≤ 2147483647) (fun _ => rfl) (fun _ h => i32_in h) fun _ => rfl
noncomputable def rdU64 : Rd Tryd.prog 26 Int := (Rd.int (k := .u64) Tryd.underlying26 (by kernel_rfl)).map id (fun n => [.int .u64 n]) (fun n => 0 ≤ n ∧ n ≤ 18446744073709551615) (fun _ => rfl) (fun _ h => u64_in h) fun _ => rfl
noncomputable def rdU8 : Rd Tryd.prog 5 Int := (Rd.int (k := .u8) Tryd.underlying5 (by kernel_rfl)).map id (fun n => [.int .u8 n]) (fun n => 0 ≤ n ∧ n ≤ 255) (fun _ => rfl) (fun _ h => u8_in h) fun _ => rfl
noncomputable def rdStr : Rd Tryd.prog 9 (List UInt8) := Rd.str Tryd.underlying9 (by kernel_rfl)
noncomputable def rdStamp : Rd Tryd.prog 51 (Int × Int × Int) :=
  (Rd.struct Tryd.underlying51 (.cons rdI64 rfl (.cons rdI32 rfl (.cons rdI32 rfl .nil))) (by kernel_rfl)).map (fun x => (x.1, x.2.1, x.2.2.1)) (fun x => [.int .i64 x.1, .int .i32 x.2.1, .int .i32 x.2.2]) (fun x => (-9223372036854775808 ≤ x.1 ∧ x.1 ≤ 9223372036854775807) ∧ (-2147483648 ≤ x.2.1 ∧ x.2.1 ≤ 2147483647) ∧ (-2147483648 ≤ x.2.2 ∧ x.2.2 ≤ 2147483647)) (fun _ => rfl) (fun _ h => ⟨h.1, h.2.1, h.2.2.1⟩) fun _ => rfl
noncomputable def rdSpan : Rd Tryd.prog 35 (List UInt8 × List UInt8) :=
  (Rd.struct Tryd.underlying35 (.cons rdStr rfl (.cons rdStr rfl .nil)) (by kernel_rfl)).map (fun x => (x.1, x.2.1)) (fun x => [.str x.1, .str x.2]) (fun x => x.1.length ≤ 9223372036854775807 ∧ x.2.length ≤ 9223372036854775807) (fun _ => rfl) (fun _ h => ⟨h.1, h.2.1⟩) fun _ => rfl
end Go.Proofs.YtcklfcagailoiaaDoor
namespace Go.Proofs.YtcklfcagailoiaaDoor
open Ab Go.RowKit
set_option linter.unusedVariables false
noncomputable def rdKind : Rd Tryd.prog 63 Int := Rd.int (k := .u8) Tryd.underlying63 (by kernel_rfl)
noncomputable def rdValue : Rd Tryd.prog 65 V :=
  (Rd.struct Tryd.underlying65 (.cons rdKind rfl (.cons rdI64 rfl (.cons rdStr rfl .nil))) (by kernel_rfl)).map (fun x => ⟨x.1, x.2.1, x.2.2.1⟩) (fun v => [.int .u8 v.k, .int .i64 v.n, .str v.t]) V.In' (fun _ => rfl) (fun _ h => ⟨h.2.1.1, h.2.1.2⟩) fun _ => rfl
@[reducible] noncomputable def rdValues : Rd Tryd.prog 43 (List V) := Rd.slice Tryd.underlying43 (by kernel_rfl) rdValue (by decide) V.sv (fun _ => rfl) vnull
end Go.Proofs.YtcklfcagailoiaaDoor
