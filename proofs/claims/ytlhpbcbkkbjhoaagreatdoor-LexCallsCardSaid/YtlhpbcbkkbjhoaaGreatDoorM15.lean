/- Parts of the proof of PLexCalls, one behind the other. -/
import Derived.Test.YtlhpbcbkkbjhoaaGreatDoorM14
import Derived.Test.YtlhpbcbkkbjhoaaGreatDoorM12
import Derived.Test.YtlhpbcbkkbjhoaaGreatDoorM13
import Derived.Lib.ItoaNum
import Derived.Test.YtlhpbcbkkbjhoaaGreatDoorM11
namespace Go.Proofs.YtlhpbcbkkbjhoaaGreatDoor
open Ab Go.RowKit
set_option maxRecDepth 100000
set_option linter.unusedVariables false
set_option linter.unusedSimpArgs false
set_option maxHeartbeats 4000000
set_option pp.maxSteps 3000
theorem below_drawn {B : Nat} {a w : World} (h : Below B a w) (q : Nat) : Below B a (w.drewN q) := ⟨h.os, h.tape, h.output, h.size, h.block⟩
theorem formatUint_any {n : Nat} (h : n < 18446744073709551616) : PCall Tryz.prog 40 [.int .u64 n, .int .i64 10] (.str (Lib.decDigits n)) := by
  have key : PCall Tryz.prog 59 [.int .u64 n, .int .i64 10] (.str (Lib.decDigits n)) := by
    refine pcall_below (lits2 (.int _ _) (.int _ _)) (.str _) fun Im w xs hg him hs hv => ?_
    obtain rfl := args2 hs hv (fun _ h => h.int_inv') (fun _ h => h.int_inv')
    have htab : Lib.TabIs Tryz.prog w "internal/strconv.uint64pow10" .u64 Lib.pow10Tab := hg.var (g := 5) (by decide) (by kernel_rfl)
    refine (formatUint_in n h w htab).mono fun e w' h => ?_
    obtain ⟨rfl, k, os, rfl⟩ := h
    have hb := below_drawn (Below.refl w.heap.size w) k
    exact ⟨⟨_, rfl, .str _⟩, below_grow os hb hb.size⟩
  refine pcall_of (lits2 (.int _ _) (.int _ _)) (call40 rfl ?_)
  iterate 6 (all_goals (try conv => whnf); all_goals (try first | with_reducible refine brY (by assumption) ?_ | with_reducible refine brN (by assumption) ?_ | (with_reducible refine brT ?_ ?_; · (simp only [Bool.and_eq_true, Bool.not_eq_true', decide_eq_true_eq, decide_eq_false_iff_not, beq_iff_eq, beq_eq_false_iff_ne, ne_eq] at *; omega)) | with_reducible refine br (fun _ => ?_) (fun _ => ?_) | with_reducible refine ⟨rfl, ?_⟩ | with_reducible refine ARound.succ ?_ | with_reducible refine PCall.call (key) ?_))
  exact leaf rfl (.str _)
theorem validString_any {s : List UInt8} (hs : s.length ≤ 9223372036854775807) : PCall Tryz.prog 39 [.str s] (.bool (Lib.validD s)) := by
  refine pcall_below (lits1 (.str _)) (.bool _) fun Im w xs hg him hz hv => ?_
  obtain rfl := args1 hz hv (fun _ h => h.str_inv')
  refine (Any.utf8_ValidString Tryz.lays196 ⟨s.toArray⟩ w (by simpa [ByteArray.size] using hs) (utf8_tabs hg)).mono fun e w' h => ?_
  obtain ⟨rfl, hb⟩ := h
  exact ⟨⟨_, rfl, .bool _⟩, hb⟩
theorem quot_rep : ∀ t : List UInt8, repB 39 [39, 39] t = quot t
  | [] => rfl
  | c :: r => by
    rw [repB, quot, quot_rep r]
    split <;> rfl
@[reducible] def lstS (l : List (List UInt8)) : SV := .lst 1 l.length fun i => .str (l.getD i [])
/-- A list of texts as bytes' arrays. -/
theorem join_any {l : List (List UInt8)} {sep : List UInt8} (hn : l.length ≤ 100000) (hl : (Lib.join l sep).length ≤ 140737488355328) : PCall Tryz.prog 18 [lstS l, .str sep] (.str (Lib.join l sep)) := by
  refine pcall_below (lits2 (.lst _ _ _) (.str _)) (.str _) fun Im w xs hg him hz hv => ?_
  obtain ⟨x0, h0⟩ : ∃ x0, xs[0]? = some x0 := ⟨xs[0]'(by rw [hz]; show 0 < 2; decide), by simp⟩
  obtain ⟨x1, h1⟩ : ∃ x1, xs[1]? = some x1 := ⟨xs[1]'(by rw [hz]; show 1 < 2; decide), by simp⟩
  have hx : xs = #[x0, x1] := by
    apply Array.ext'
    apply List.ext_getElem?
    intro i
    rcases i with _ | _ | i
    · simpa using h0
    · simpa using h1
    · simp [hz]
  have v0 := hv 0 _ x0 rfl h0
  have v1 := (hv 1 _ x1 rfl h1).str_inv'
  subst hx v1
  have em : (l.map fun s => (⟨s.toArray⟩ : ByteArray)).map (·.data.toList) = l := by
    rw [List.map_map]
    conv => rhs; rw [← List.map_id l]
    rfl
  have fin : ∀ (a : Option Addr) (c : Nat), x0 = .slice a 0 c → l = [] → Calls Tryz.prog 18 #[x0, .string ⟨sep.toArray⟩] w fun e w' => (∃ x, e = .returned x ∧ VP Im w' (.str (Lib.join l sep)) x) ∧ Below w.heap.size w w' := by
    rintro a c rfl rfl
    refine (Any.strings_Join_none Tryz.lays156 Tryz.builderExtra156 a c _ w).mono fun e w' h => ?_
    obtain ⟨rfl, rfl⟩ := h
    exact ⟨⟨_, rfl, .str _⟩, Below.refl _ _⟩
  generalize hq : lstS l = q at v0
  cases v0 <;> first | (cases hq; done) | skip
  · rename_i sz get a c
    refine fin a c rfl (List.eq_nil_of_length_eq_zero ?_)
    injection hq
  · rename_i sz n get b off cap C ty fz hb hw hn hcap hc h
    have e1 : n = l.length := by injection hq with _ h2 _; exact h2.symm
    have e2 : get = fun i => SV.str (l.getD i []) := by injection hq with _ _ h3; exact h3.symm
    have e3 : sz = 1 := by injection hq with h1 _ _; exact h1.symm
    subst e1 e2 e3
    have hcells : ∀ (j : Nat) x, (l.map fun s => (⟨s.toArray⟩ : ByteArray))[j]? = some x → w.cell? ⟨b, off + j, none⟩ = some (.string x) := by
      intro j x hx
      rw [List.getElem?_map] at hx
      obtain ⟨t, ht, rfl⟩ := Option.map_eq_some_iff.1 hx
      have hj : j < l.length := (List.getElem?_eq_some_iff.1 ht).1
      obtain ⟨y, hy⟩ : ∃ y, C[off + j]? = some y := ⟨C[off + j]'(by omega), by simp⟩
      have := h j 0 (.str t) y hj (by show [SV.str (l.getD j [])][0]? = _; simp [List.getD, ht]) (by rw [Nat.mul_one, Nat.add_zero]; exact hy)
      rw [this.str_inv'] at hy
      unfold World.cell?
      rw [hw]
      exact hy
    have hJ := Any.strings_Join Tryz.lays156 Tryz.builderExtra156 b off cap (l.map fun s => (⟨s.toArray⟩ : ByteArray)) ⟨sep.toArray⟩ w hcells (him b hb) (by rw [List.length_map]; omega) (by rw [List.length_map]; exact hcap) (by rw [em]; exact hl)
    rw [em, List.length_map] at hJ
    refine hJ.mono fun e w' h => ?_
    obtain ⟨rfl, hb⟩ := h
    exact ⟨⟨_, rfl, .str _⟩, hb⟩
theorem said_any {x : TI} (h3 : x.1.k = 3 → x.1.t.length ≤ 1000) (hn : x.1.n < 18446744073709551616) : PCall Tryz.prog 17 [tokI x] (.str (saidL x.1)) := by
  obtain ⟨⟨k, t, n⟩, a⟩ := x
  dsimp only at h3 hn
  refine pcall_of (lits1 (.agg (by simp only [List.mem_cons, List.not_mem_nil, or_false]; rintro _ (rfl | rfl | rfl | rfl) <;> constructor))) (call17 rfl ?_)
  by_cases k2 : k = 2
  · subst k2
    have cf := formatUint_any hn
    iterate 20 (all_goals (try conv => whnf); all_goals (try first | with_reducible refine brY (by assumption) ?_ | with_reducible refine brN (by assumption) ?_ | (with_reducible refine brT ?_ ?_; · (simp only [Bool.and_eq_true, Bool.not_eq_true', decide_eq_true_eq, decide_eq_false_iff_not, beq_iff_eq, beq_eq_false_iff_ne, ne_eq] at *; omega)) | with_reducible refine br (fun _ => ?_) (fun _ => ?_) | with_reducible refine ⟨rfl, ?_⟩ | with_reducible refine ARound.succ ?_ | with_reducible refine PCall.call (cf) ?_))
    exact leaf rfl (.str _)
  by_cases k3 : k = 3
  · subst k3
    have h3 := h3 rfl
    have cr := replaceAll_any (b := 39) (nw := [39, 39]) (s := t) (by decide) (by decide) (by decide) (by omega)
    rw [quot_rep] at cr
    have hql := quot_len t
    have q1 : decide (([39] : List UInt8).length + (quot t).length ≤ 9223372036854775807) = true := decide_eq_true (by simp only [List.length_singleton]; omega)
    have q2 : decide (([39] ++ quot t : List UInt8).length + ([39] : List UInt8).length ≤ 9223372036854775807) = true := decide_eq_true (by simp only [List.length_append, List.length_singleton]; omega)
    iterate 20 (all_goals (try conv => whnf); all_goals (try first | with_reducible refine brY (by assumption) ?_ | with_reducible refine brN (by assumption) ?_ | (with_reducible refine brT ?_ ?_; · (simp only [Bool.and_eq_true, Bool.not_eq_true', decide_eq_true_eq, decide_eq_false_iff_not, beq_iff_eq, beq_eq_false_iff_ne, ne_eq] at *; omega)) | with_reducible refine br (fun _ => ?_) (fun _ => ?_) | with_reducible refine ⟨rfl, ?_⟩ | with_reducible refine ARound.succ ?_ | with_reducible refine PCall.call (cr) ?_))
    exact leaf rfl (.str _)
  · have q2 : (k == 2) = false := by rw [beq_eq_false_iff_ne]; exact k2
    have q3 : (k == 3) = false := by rw [beq_eq_false_iff_ne]; exact k3
    iterate 20 (all_goals (try conv => whnf); all_goals (try first | with_reducible refine brY (by assumption) ?_ | with_reducible refine brN (by assumption) ?_ | (with_reducible refine brT ?_ ?_; · (simp only [Bool.and_eq_true, Bool.not_eq_true', decide_eq_true_eq, decide_eq_false_iff_not, beq_iff_eq, beq_eq_false_iff_ne, ne_eq] at *; omega)) | with_reducible refine br (fun _ => ?_) (fun _ => ?_) | with_reducible refine ⟨rfl, ?_⟩ | with_reducible refine ARound.succ ?_))
    exact leaf (by unfold saidL; rw [if_neg k2, if_neg k3]) (.str _)
theorem lex_long {s : List UInt8} (hs : 65536 < s.length) : PCall Tryz.prog 5 [.str s] (.tup [.nils, fltS 3 (-1)]) := by
  refine pcall_of (lits1 (.str _)) (call5 rfl ?_)
  have h0 : decide ((65536 : Int) < (s.length : Int)) = true := decide_eq_true (by omega)
  iterate 10 (all_goals (try conv => whnf); all_goals (try first | with_reducible refine brY (by assumption) ?_ | with_reducible refine brN (by assumption) ?_ | (with_reducible refine brT ?_ ?_; · (simp only [Bool.and_eq_true, Bool.not_eq_true', decide_eq_true_eq, decide_eq_false_iff_not, beq_iff_eq, beq_eq_false_iff_ne, ne_eq] at *; omega)) | with_reducible refine br (fun _ => ?_) (fun _ => ?_) | with_reducible refine ⟨rfl, ?_⟩ | with_reducible refine ARound.succ ?_))
  exact leaf rfl (lit2 .nils (.agg (by simp only [List.mem_cons, List.not_mem_nil, or_false]; rintro _ (rfl | rfl) <;> constructor)))
theorem tokI_lit (x : TI) : LitV (tokI x) := .agg (by simp only [List.mem_cons, List.not_mem_nil, or_false]; rintro _ (rfl | rfl | rfl | rfl) <;> constructor)
theorem finB (y : Tk) (k : Int) (t : List UInt8) (n : Nat) : SV.bool ((fun q => y.k == k && q) ((fun q => y.t == t && q) ((fun q => (y.n : Int) == (n : Int) && q) (((0 : Nat) : Int) == 0)))) = SV.bool (y.k == k && y.t == t && y.n == n) := by
  have : (((0 : Nat) : Int) == 0) = true := rfl
  rw [this]
  simp only [int_beq, Bool.and_true, Bool.and_assoc]
theorem finC (y : Tk) (k : Int) (t : List UInt8) (p : Nat) : SV.bool ((fun q => y.k == k && q) ((fun q => y.t == t && q) ((fun q => (y.n : Int) == ((0 : Nat) : Int) && q) (((p + 1 : Nat) : Int) == 0)))) = SV.bool false := by
  have : (((p + 1 : Nat) : Int) == 0) = false := by rw [beq_eq_false_iff_ne]; omega
  rw [this]
  simp
def fineI (x : TI) : Bool := decide (x.2 = 0) && fineT x.1
theorem fine_any {x : TI} (hn : x.1.n < 18446744073709551616) (ht : x.1.t.length ≤ 9223372036854775807) : PCall Tryz.prog 16 [tokI x] (.bool (fineI x)) := by
  have hsaid := said_any (x := x)
  obtain ⟨⟨k, t, n⟩, a⟩ := x
  dsimp only at hn ht hsaid
  refine pcall_of (lits1 (tokI_lit _)) (call16 rfl ?_)
  by_cases ha : a = 0
  case neg =>
    have q1 : (a != 0) = true := by rw [bne_iff_ne]; exact ha
    iterate 30 (all_goals (try conv => whnf); all_goals (try first | with_reducible refine brY (by assumption) ?_ | with_reducible refine brN (by assumption) ?_ | (with_reducible refine brT ?_ ?_; · (simp only [Bool.and_eq_true, Bool.not_eq_true', decide_eq_true_eq, decide_eq_false_iff_not, beq_iff_eq, beq_eq_false_iff_ne, ne_eq] at *; omega)) | with_reducible refine br (fun _ => ?_) (fun _ => ?_) | with_reducible refine ⟨rfl, ?_⟩ | with_reducible refine ARound.succ ?_))
    all_goals exact leaf (by unfold fineI; rw [decide_eq_false (show ¬ (a = 0) from ha)]; rfl) (.bool _)
  subst ha
  have hI : fineI (⟨k, t, n⟩, 0) = fineT ⟨k, t, n⟩ := by unfold fineI; simp
  rw [hI]
  by_cases c1 : (k ≠ 2 ∧ n ≠ 0) ∨ k = 0 ∨ 4 < k
  · have hf : fineT ⟨k, t, n⟩ = false := by unfold fineT; rw [if_pos c1]
    rw [hf]
    by_cases k2 : k = 2
    · subst k2; exfalso; omega
    · have q2 : (k != 2) = true := by rw [bne_iff_ne]; exact k2
      have q4 : ((n : Int) != 0) = !(decide (n = 0)) := by by_cases h : n = 0 <;> simp [h]
      by_cases n0 : n = 0
      · subst n0
        by_cases k0 : k = 0
        · subst k0
          iterate 40 (all_goals (try conv => whnf); all_goals (try first | with_reducible refine brY (by assumption) ?_ | with_reducible refine brN (by assumption) ?_ | (with_reducible refine brT ?_ ?_; · (simp only [Bool.and_eq_true, Bool.not_eq_true', decide_eq_true_eq, decide_eq_false_iff_not, beq_iff_eq, beq_eq_false_iff_ne, ne_eq] at *; omega)) | with_reducible refine br (fun _ => ?_) (fun _ => ?_) | with_reducible refine ⟨rfl, ?_⟩ | with_reducible refine ARound.succ ?_))
          all_goals exact leaf rfl (.bool _)
        · have q5 : (k == 0) = false := by rw [beq_eq_false_iff_ne]; exact k0
          have q6 : decide (4 < k) = true := decide_eq_true (by omega)
          iterate 40 (all_goals (try conv => whnf); all_goals (try first | with_reducible refine brY (by assumption) ?_ | with_reducible refine brN (by assumption) ?_ | (with_reducible refine brT ?_ ?_; · (simp only [Bool.and_eq_true, Bool.not_eq_true', decide_eq_true_eq, decide_eq_false_iff_not, beq_iff_eq, beq_eq_false_iff_ne, ne_eq] at *; omega)) | with_reducible refine br (fun _ => ?_) (fun _ => ?_) | with_reducible refine ⟨rfl, ?_⟩ | with_reducible refine ARound.succ ?_))
          all_goals exact leaf rfl (.bool _)
      · have q5 : ((n : Int) != 0) = true := by rw [bne_iff_ne]; omega
        iterate 40 (all_goals (try conv => whnf); all_goals (try first | with_reducible refine brY (by assumption) ?_ | with_reducible refine brN (by assumption) ?_ | (with_reducible refine brT ?_ ?_; · (simp only [Bool.and_eq_true, Bool.not_eq_true', decide_eq_true_eq, decide_eq_false_iff_not, beq_iff_eq, beq_eq_false_iff_ne, ne_eq] at *; omega)) | with_reducible refine br (fun _ => ?_) (fun _ => ?_) | with_reducible refine ⟨rfl, ?_⟩ | with_reducible refine ARound.succ ?_))
        all_goals exact leaf rfl (.bool _)
  · have q5 : (k == 0) = false := by rw [beq_eq_false_iff_ne]; omega
    have q6 : decide (4 < k) = false := decide_eq_false (by omega)
    by_cases k2 : k = 2
    · subst k2
      have hf : fineT ⟨2, t, n⟩ = (t == [] && decide (n ≤ 9223372036854775808)) := by unfold fineT; rw [if_neg c1, if_pos rfl]
      rw [hf]
      have e9 : decide ((n : Int) ≤ 9223372036854775808) = decide (n ≤ 9223372036854775808) := by by_cases h : n ≤ 9223372036854775808 <;> simp [h] <;> omega
      by_cases t0 : t = []
      · subst t0
        iterate 60 (all_goals (try conv => whnf); all_goals (try first | with_reducible refine brY (by assumption) ?_ | with_reducible refine brN (by assumption) ?_ | (with_reducible refine brT ?_ ?_; · (simp only [Bool.and_eq_true, Bool.not_eq_true', decide_eq_true_eq, decide_eq_false_iff_not, beq_iff_eq, beq_eq_false_iff_ne, ne_eq] at *; omega)) | with_reducible refine br (fun _ => ?_) (fun _ => ?_) | with_reducible refine ⟨rfl, ?_⟩ | with_reducible refine ARound.succ ?_))
        exact leaf (by show SV.bool (decide ((n : Int) ≤ 9223372036854775808)) = _; rw [e9]; rfl) (.bool _)
      · have q7 : (t == []) = false := by rw [beq_eq_false_iff_ne]; exact t0
        iterate 60 (all_goals (try conv => whnf); all_goals (try first | with_reducible refine brY (by assumption) ?_ | with_reducible refine brN (by assumption) ?_ | (with_reducible refine brT ?_ ?_; · (simp only [Bool.and_eq_true, Bool.not_eq_true', decide_eq_true_eq, decide_eq_false_iff_not, beq_iff_eq, beq_eq_false_iff_ne, ne_eq] at *; omega)) | with_reducible refine br (fun _ => ?_) (fun _ => ?_) | with_reducible refine ⟨rfl, ?_⟩ | with_reducible refine ARound.succ ?_))
        exact leaf (by rw [q7]; rfl) (.bool _)
    · have q2 : (k != 2) = true := by rw [bne_iff_ne]; exact k2
      have q3 : (k == 2) = false := by rw [beq_eq_false_iff_ne]; exact k2
      obtain rfl : n = 0 := by omega
      have go : ∀ (b53 : Bool), True := fun _ => trivial
      by_cases c3 : k = 3 ∧ (64 < t.length ∨ Lib.validD t = false)
      · have hf : fineT ⟨k, t, 0⟩ = false := by unfold fineT; rw [if_neg c1, if_neg k2, if_pos c3]
        rw [hf]
        obtain ⟨rfl, c3⟩ := c3
        by_cases h64 : 64 < t.length
        · have q7 : decide ((64 : Int) < (t.length : Int)) = true := decide_eq_true (by omega)
          iterate 60 (all_goals (try conv => whnf); all_goals (try first | with_reducible refine brY (by assumption) ?_ | with_reducible refine brN (by assumption) ?_ | (with_reducible refine brT ?_ ?_; · (simp only [Bool.and_eq_true, Bool.not_eq_true', decide_eq_true_eq, decide_eq_false_iff_not, beq_iff_eq, beq_eq_false_iff_ne, ne_eq] at *; omega)) | with_reducible refine br (fun _ => ?_) (fun _ => ?_) | with_reducible refine ⟨rfl, ?_⟩ | with_reducible refine ARound.succ ?_))
          exact leaf rfl (.bool _)
        · have q7 : decide ((64 : Int) < (t.length : Int)) = false := decide_eq_false (by omega)
          have cv := validString_any ht
          have hv := c3.resolve_left h64
          rw [hv] at cv
          iterate 60 (all_goals (try conv => whnf); all_goals (try first | with_reducible refine brY (by assumption) ?_ | with_reducible refine brN (by assumption) ?_ | (with_reducible refine brT ?_ ?_; · (simp only [Bool.and_eq_true, Bool.not_eq_true', decide_eq_true_eq, decide_eq_false_iff_not, beq_iff_eq, beq_eq_false_iff_ne, ne_eq] at *; omega)) | with_reducible refine br (fun _ => ?_) (fun _ => ?_) | with_reducible refine ⟨rfl, ?_⟩ | with_reducible refine ARound.succ ?_ | with_reducible refine PCall.call (cv) ?_))
          exact leaf rfl (.bool _)
      · have cs := hsaid (fun h => by have : ¬ 64 < t.length := fun h' => c3 ⟨h, .inl h'⟩; omega) hn
        have hf : fineT ⟨k, t, 0⟩ = (if 65536 < (saidL ⟨k, t, 0⟩).length then false else match lexL (saidL ⟨k, t, 0⟩) with
            | .ok [(y, 0)] => y.k == k && y.t == t && y.n == 0
            | _ => false) := by unfold fineT; rw [if_neg c1, if_neg k2, if_neg c3]; rfl
        rw [hf]
        generalize saidL ⟨k, t, 0⟩ = w at cs ⊢
        have cv := validString_any ht
        have cond : (k = 3 → decide ((64 : Int) < (t.length : Int)) = false ∧ Lib.validD t = true) := fun h => ⟨decide_eq_false (by have : ¬ 64 < t.length := fun h' => c3 ⟨h, .inl h'⟩; omega), by cases hv : Lib.validD t with | true => rfl | false => exact absurd ⟨h, .inr hv⟩ c3⟩
        by_cases hw : 65536 < w.length
        · rw [if_pos hw]
          have cl := lex_long hw
          by_cases k3 : k = 3
          · subst k3
            obtain ⟨q7, q8⟩ := cond rfl
            rw [q8] at cv
            iterate 90 (all_goals (try conv => whnf); all_goals (try first | with_reducible refine brY (by assumption) ?_ | with_reducible refine brN (by assumption) ?_ | (with_reducible refine brT ?_ ?_; · (simp only [Bool.and_eq_true, Bool.not_eq_true', decide_eq_true_eq, decide_eq_false_iff_not, beq_iff_eq, beq_eq_false_iff_ne, ne_eq] at *; omega)) | with_reducible refine br (fun _ => ?_) (fun _ => ?_) | with_reducible refine ⟨rfl, ?_⟩ | with_reducible refine ARound.succ ?_ | with_reducible refine PCall.call (cv) ?_ | with_reducible refine PCall.call (cs) ?_ | with_reducible refine PCall.call (cl) ?_))
            exact leaf rfl (.bool _)
          · have q7 : (k == 3) = false := by rw [beq_eq_false_iff_ne]; exact k3
            iterate 90 (all_goals (try conv => whnf); all_goals (try first | with_reducible refine brY (by assumption) ?_ | with_reducible refine brN (by assumption) ?_ | (with_reducible refine brT ?_ ?_; · (simp only [Bool.and_eq_true, Bool.not_eq_true', decide_eq_true_eq, decide_eq_false_iff_not, beq_iff_eq, beq_eq_false_iff_ne, ne_eq] at *; omega)) | with_reducible refine br (fun _ => ?_) (fun _ => ?_) | with_reducible refine ⟨rfl, ?_⟩ | with_reducible refine ARound.succ ?_ | with_reducible refine PCall.call (cs) ?_ | with_reducible refine PCall.call (cl) ?_))
            exact leaf rfl (.bool _)
        · rw [if_neg hw]
          have cl := lex_any (s := w) (by omega)
          cases hL : lexL w with
          | error e =>
            obtain ⟨e, p⟩ := e
            rw [hL] at cl
            have he := lexGo_err0 w.length w 0 e p hL
            have q9 : (fun q => e == 0 && q) ((p : Int) == 0) = false := by
              have : (e == 0) = false := by rw [beq_eq_false_iff_ne]; exact he
              simp [this]
            by_cases k3 : k = 3
            · subst k3
              obtain ⟨q7, q8⟩ := cond rfl
              rw [q8] at cv
              iterate 90 (all_goals (try conv => whnf); all_goals (try first | with_reducible refine brY (by assumption) ?_ | with_reducible refine brN (by assumption) ?_ | (with_reducible refine brT ?_ ?_; · (simp only [Bool.and_eq_true, Bool.not_eq_true', decide_eq_true_eq, decide_eq_false_iff_not, beq_iff_eq, beq_eq_false_iff_ne, ne_eq] at *; omega)) | with_reducible refine br (fun _ => ?_) (fun _ => ?_) | with_reducible refine ⟨rfl, ?_⟩ | with_reducible refine ARound.succ ?_ | with_reducible refine PCall.call (cv) ?_ | with_reducible refine PCall.call (cs) ?_ | with_reducible refine PCall.call (cl) ?_))
              exact leaf rfl (.bool _)
            · have q7 : (k == 3) = false := by rw [beq_eq_false_iff_ne]; exact k3
              iterate 90 (all_goals (try conv => whnf); all_goals (try first | with_reducible refine brY (by assumption) ?_ | with_reducible refine brN (by assumption) ?_ | (with_reducible refine brT ?_ ?_; · (simp only [Bool.and_eq_true, Bool.not_eq_true', decide_eq_true_eq, decide_eq_false_iff_not, beq_iff_eq, beq_eq_false_iff_ne, ne_eq] at *; omega)) | with_reducible refine br (fun _ => ?_) (fun _ => ?_) | with_reducible refine ⟨rfl, ?_⟩ | with_reducible refine ARound.succ ?_ | with_reducible refine PCall.call (cs) ?_ | with_reducible refine PCall.call (cl) ?_))
              exact leaf rfl (.bool _)
          | ok l =>
            rw [hL] at cl
            cases l with
            | nil =>
              by_cases k3 : k = 3
              · subst k3
                obtain ⟨q7, q8⟩ := cond rfl
                rw [q8] at cv
                iterate 110 (all_goals (try conv => whnf); all_goals (try first | with_reducible refine brY (by assumption) ?_ | with_reducible refine brN (by assumption) ?_ | (with_reducible refine brT ?_ ?_; · (simp only [Bool.and_eq_true, Bool.not_eq_true', decide_eq_true_eq, decide_eq_false_iff_not, beq_iff_eq, beq_eq_false_iff_ne, ne_eq] at *; omega)) | with_reducible refine br (fun _ => ?_) (fun _ => ?_) | with_reducible refine ⟨rfl, ?_⟩ | with_reducible refine ARound.succ ?_ | with_reducible refine PCall.call (cv) ?_ | with_reducible refine PCall.call (cs) ?_ | with_reducible refine PCall.call (cl) ?_))
                exact leaf rfl (.bool _)
              · have q7 : (k == 3) = false := by rw [beq_eq_false_iff_ne]; exact k3
                iterate 110 (all_goals (try conv => whnf); all_goals (try first | with_reducible refine brY (by assumption) ?_ | with_reducible refine brN (by assumption) ?_ | (with_reducible refine brT ?_ ?_; · (simp only [Bool.and_eq_true, Bool.not_eq_true', decide_eq_true_eq, decide_eq_false_iff_not, beq_iff_eq, beq_eq_false_iff_ne, ne_eq] at *; omega)) | with_reducible refine br (fun _ => ?_) (fun _ => ?_) | with_reducible refine ⟨rfl, ?_⟩ | with_reducible refine ARound.succ ?_ | with_reducible refine PCall.call (cs) ?_ | with_reducible refine PCall.call (cl) ?_))
                exact leaf rfl (.bool _)
            | cons y r =>
              cases r with
              | nil =>
                obtain ⟨y, p⟩ := y
                cases p with
                | zero =>
                  by_cases k3 : k = 3
                  · subst k3
                    obtain ⟨q7, q8⟩ := cond rfl
                    rw [q8] at cv
                    iterate 110 (all_goals (try conv => whnf); all_goals (try first | with_reducible refine brY (by assumption) ?_ | with_reducible refine brN (by assumption) ?_ | (with_reducible refine brT ?_ ?_; · (simp only [Bool.and_eq_true, Bool.not_eq_true', decide_eq_true_eq, decide_eq_false_iff_not, beq_iff_eq, beq_eq_false_iff_ne, ne_eq] at *; omega)) | with_reducible refine br (fun _ => ?_) (fun _ => ?_) | with_reducible refine ⟨rfl, ?_⟩ | with_reducible refine ARound.succ ?_ | with_reducible refine PCall.call (cv) ?_ | with_reducible refine PCall.call (cs) ?_ | with_reducible refine PCall.call (cl) ?_))
                    exact leaf (finB y _ t 0) (.bool _)
                  · have q7 : (k == 3) = false := by rw [beq_eq_false_iff_ne]; exact k3
                    iterate 110 (all_goals (try conv => whnf); all_goals (try first | with_reducible refine brY (by assumption) ?_ | with_reducible refine brN (by assumption) ?_ | (with_reducible refine brT ?_ ?_; · (simp only [Bool.and_eq_true, Bool.not_eq_true', decide_eq_true_eq, decide_eq_false_iff_not, beq_iff_eq, beq_eq_false_iff_ne, ne_eq] at *; omega)) | with_reducible refine br (fun _ => ?_) (fun _ => ?_) | with_reducible refine ⟨rfl, ?_⟩ | with_reducible refine ARound.succ ?_ | with_reducible refine PCall.call (cs) ?_ | with_reducible refine PCall.call (cl) ?_))
                    exact leaf (finB y k t 0) (.bool _)
                | succ p =>
                  by_cases k3 : k = 3
                  · subst k3
                    obtain ⟨q7, q8⟩ := cond rfl
                    rw [q8] at cv
                    iterate 110 (all_goals (try conv => whnf); all_goals (try first | with_reducible refine brY (by assumption) ?_ | with_reducible refine brN (by assumption) ?_ | (with_reducible refine brT ?_ ?_; · (simp only [Bool.and_eq_true, Bool.not_eq_true', decide_eq_true_eq, decide_eq_false_iff_not, beq_iff_eq, beq_eq_false_iff_ne, ne_eq] at *; omega)) | with_reducible refine br (fun _ => ?_) (fun _ => ?_) | with_reducible refine ⟨rfl, ?_⟩ | with_reducible refine ARound.succ ?_ | with_reducible refine PCall.call (cv) ?_ | with_reducible refine PCall.call (cs) ?_ | with_reducible refine PCall.call (cl) ?_))
                    exact leaf (finC y _ t p) (.bool _)
                  · have q7 : (k == 3) = false := by rw [beq_eq_false_iff_ne]; exact k3
                    iterate 110 (all_goals (try conv => whnf); all_goals (try first | with_reducible refine brY (by assumption) ?_ | with_reducible refine brN (by assumption) ?_ | (with_reducible refine brT ?_ ?_; · (simp only [Bool.and_eq_true, Bool.not_eq_true', decide_eq_true_eq, decide_eq_false_iff_not, beq_iff_eq, beq_eq_false_iff_ne, ne_eq] at *; omega)) | with_reducible refine br (fun _ => ?_) (fun _ => ?_) | with_reducible refine ⟨rfl, ?_⟩ | with_reducible refine ARound.succ ?_ | with_reducible refine PCall.call (cs) ?_ | with_reducible refine PCall.call (cl) ?_))
                    exact leaf (finC y k t p) (.bool _)
              | cons z r =>
                have q10 : (((y :: z :: r).length : Int) == 1) = false := by rw [beq_eq_false_iff_ne]; simp only [List.length_cons]; omega
                by_cases k3 : k = 3
                · subst k3
                  obtain ⟨q7, q8⟩ := cond rfl
                  rw [q8] at cv
                  iterate 110 (all_goals (try conv => whnf); all_goals (try first | with_reducible refine brY (by assumption) ?_ | with_reducible refine brN (by assumption) ?_ | (with_reducible refine brT ?_ ?_; · (simp only [Bool.and_eq_true, Bool.not_eq_true', decide_eq_true_eq, decide_eq_false_iff_not, beq_iff_eq, beq_eq_false_iff_ne, ne_eq] at *; omega)) | with_reducible refine br (fun _ => ?_) (fun _ => ?_) | with_reducible refine ⟨rfl, ?_⟩ | with_reducible refine ARound.succ ?_ | with_reducible refine PCall.call (cv) ?_ | with_reducible refine PCall.call (cs) ?_ | with_reducible refine PCall.call (cl) ?_))
                  exact leaf (by obtain ⟨a, b⟩ := y; cases b <;> rfl) (.bool _)
                · have q7 : (k == 3) = false := by rw [beq_eq_false_iff_ne]; exact k3
                  iterate 110 (all_goals (try conv => whnf); all_goals (try first | with_reducible refine brY (by assumption) ?_ | with_reducible refine brN (by assumption) ?_ | (with_reducible refine brT ?_ ?_; · (simp only [Bool.and_eq_true, Bool.not_eq_true', decide_eq_true_eq, decide_eq_false_iff_not, beq_iff_eq, beq_eq_false_iff_ne, ne_eq] at *; omega)) | with_reducible refine br (fun _ => ?_) (fun _ => ?_) | with_reducible refine ⟨rfl, ?_⟩ | with_reducible refine ARound.succ ?_ | with_reducible refine PCall.call (cs) ?_ | with_reducible refine PCall.call (cl) ?_))
                  exact leaf (by obtain ⟨a, b⟩ := y; cases b <;> rfl) (.bool _)
end Go.Proofs.YtlhpbcbkkbjhoaaGreatDoor
namespace Go.Proofs.YtlhpbcbkkbjhoaaGreatDoor
open Ab Go.RowKit
set_option maxRecDepth 100000
set_option linter.unusedVariables false
set_option linter.unusedSimpArgs false
set_option maxHeartbeats 4000000
set_option pp.maxSteps 3000
theorem digits_small {n : Nat} (h : n < 10) : PCall Tryz.prog 45 [.int .u64 n] (.str (Lib.decDigits n)) := by
  have e : Lib.decDigits n = [UInt8.ofNat (48 + n)] := by rw [Lib.decDigits, dif_pos h]
  rw [e]
  rcases (by omega : n = 0 ∨ n = 1 ∨ n = 2 ∨ n = 3 ∨ n = 4 ∨ n = 5 ∨ n = 6 ∨ n = 7 ∨ n = 8 ∨ n = 9) with rfl | rfl | rfl | rfl | rfl | rfl | rfl | rfl | rfl | rfl
  all_goals refine pcall_of (lits1 (.int _ _)) (call45 rfl ?_)
  all_goals iterate 8 (all_goals (try conv => whnf); all_goals (try first | with_reducible refine brY (by assumption) ?_ | with_reducible refine brN (by assumption) ?_ | (with_reducible refine brT ?_ ?_; · (simp only [Bool.and_eq_true, Bool.not_eq_true', decide_eq_true_eq, decide_eq_false_iff_not, beq_iff_eq, beq_eq_false_iff_ne, ne_eq] at *; omega)) | with_reducible refine br (fun _ => ?_) (fun _ => ?_) | with_reducible refine ⟨rfl, ?_⟩ | with_reducible refine ARound.succ ?_))
  all_goals exact leaf rfl (.str _)
theorem decDigits_len : ∀ (k n : Nat), n < 10 ^ (k + 1) → (Lib.decDigits n).length ≤ k + 1
  | 0, n, h => by rw [Lib.decDigits, dif_pos (by simpa using h)]; simp
  | k+1, n, h => by
    rw [Lib.decDigits]
    split
    · simp
    · have := decDigits_len k (n / 10) (by rw [Nat.pow_succ] at h; omega)
      simp only [List.length_append, List.length_cons, List.length_nil]
      omega
theorem digits_any : ∀ (k : Nat) {n : Nat}, n < 10 ^ (k + 1) → n < 18446744073709551616 → PCall Tryz.prog 45 [.int .u64 n] (.str (Lib.decDigits n))
  | 0, n, h, _ => digits_small (by simpa using h)
  | k+1, n, h, h64 => by
    by_cases hs : n < 10
    · exact digits_small hs
    have e : Lib.decDigits n = Lib.decDigits (n / 10) ++ Lib.decDigits (n % 10) := by
      rw [Lib.decDigits, dif_neg hs]
      congr 1
      rw [Lib.decDigits, dif_pos (by omega)]
    have c1 := digits_any k (n := n / 10) (by rw [Nat.pow_succ] at h; omega) (by omega)
    have c2 := digits_small (n := n % 10) (by omega)
    have l1 := decDigits_len 19 (n / 10) (by omega)
    have l2 := decDigits_len 0 (n % 10) (by omega)
    rw [e]
    have q1 : IntKind.u64.wrap ((n : Int).tdiv 10) = ((n / 10 : Nat) : Int) := by
      rw [IntKind.wrap_u64, Int.tdiv_eq_ediv_of_nonneg (by omega)]; omega
    have q2 : (n : Int).tmod 10 = ((n % 10 : Nat) : Int) := by
      rw [Int.tmod_eq_emod_of_nonneg (by omega)]; omega
    rw [← q1] at c1
    rw [← q2] at c2
    have h10 : ¬ ((n : Int) < 10) := by omega
    generalize (n : Int) = N at c1 c2 h10 ⊢
    generalize Lib.decDigits (n / 10) = X at c1 l1 ⊢
    generalize Lib.decDigits (n % 10) = Y at c2 l2 ⊢
    have hd : decide (N < 10) = false := decide_eq_false h10
    have hl : decide (X.length + Y.length ≤ 9223372036854775807) = true := decide_eq_true (by omega)
    refine pcall_of (lits1 (.int _ _)) (call45 rfl ?_)
    iterate 12 (all_goals (try conv => whnf); all_goals (try first | with_reducible refine brY (by assumption) ?_ | with_reducible refine brN (by assumption) ?_ | (with_reducible refine brT ?_ ?_; · (simp only [Bool.and_eq_true, Bool.not_eq_true', decide_eq_true_eq, decide_eq_false_iff_not, beq_iff_eq, beq_eq_false_iff_ne, ne_eq] at *; omega)) | with_reducible refine br (fun _ => ?_) (fun _ => ?_) | with_reducible refine ⟨rfl, ?_⟩ | with_reducible refine ARound.succ ?_ | with_reducible refine PCall.call (c1) ?_ | with_reducible refine PCall.call (c2) ?_))
    exact leaf rfl (.str _)
attribute [local irreducible] appendK allLtK
theorem append_el {ty : TypeId} {m g i n : Nat} {elems : List SV} {c : SV} {sk : Sk} {l : List (Nat × AObj)} {k : SV → Heap → Prop} (ho : objL l i = some (.vec g 1 elems ⟨true, some ty⟩)) (hn : n = elems.length) (him : i < m) (hc : allOne c.cells = true) (hlen : n + 1 ≤ 140737488355328)
    (hk : k (.sl i (g + 1) 1 0 (n + 1) none) ⟨m + 1, (m, .vec 0 1 [c] sk) :: putO l i (.vec (g + 1) 1 (elems ++ [c]) ⟨true, some ty⟩)⟩) :
    appendK ty 1 1 ⟨m + 1, (m, .vec 0 1 [c] sk) :: l⟩ (.sl i g 1 0 n none) (.sl m 0 1 0 1 (some 1)) k := by
  refine append_mv (elems_all objL_hd rfl) (by simp) (by simp [allOnes, hc]) (by rw [objL_nx (by omega)]; exact ho) hn (by simp; omega) (by simp; omega) ?_
  rw [setO_eq]
  unfold putO
  rw [if_neg (by omega), joinTy_self]
  exact hk
theorem lt_by2 {n : Nat} {s : List UInt8} {c d : Int} : ∀ v ∈ (s.map byS ++ [SV.int .u8 c]) ++ [SV.int .u8 d], SV.lt 8 n v = true := by
  intro v hv
  rcases List.mem_append.1 hv with h | h
  · exact lt_by1 v h
  · exact lt_one rfl v h
structure QxS (t : List UInt8) where
  i : Nat
  g : Nat
  h1 : 0 < i
  hi : i ≤ t.length
def quoB (t : List UInt8) : List UInt8 := repB 39 [39, 39] t
theorem quo_take {t : List UInt8} {i : Nat} (h : i < t.length) : quoB (t.take (i + 1)) = quoB (t.take i) ++ (if t.getD i 0 = 39 then [39, 39] else [t.getD i 0]) := by
  rw [take_succ_getD h]
  show repB _ _ _ = _
  rw [repB_app]
  congr 1
  by_cases hc : t.getD i 0 = 39
  · rw [hc, if_pos rfl]; rfl
  · rw [if_neg hc, repB, if_neg hc]; rfl
theorem quoted_any {t : List UInt8} (ht : t.length ≤ 1000000) : PCall Tryz.prog 46 [.str t] (.str ([39] ++ quoB t ++ [39])) := by
  refine pcall_of (lits1 (.str _)) (call46 rfl ?_)
  have eb : ∀ c : UInt8, ((c.toNat : Int) == 39) = decide (c = 39) := fun c => by
    by_cases h : c = 39
    · subst h; rfl
    · have : c.toNat ≠ 39 := fun e => h (UInt8.toNat_inj.1 e)
      rw [decide_eq_false h, beq_eq_false_iff_ne]; omega
  by_cases h0 : t = []
  · subst h0
    iterate 24 (all_goals (try conv => whnf); all_goals (try first | with_reducible refine brY (by assumption) ?_ | with_reducible refine brN (by assumption) ?_ | (with_reducible refine brT ?_ ?_; · (simp only [Bool.and_eq_true, Bool.not_eq_true', decide_eq_true_eq, decide_eq_false_iff_not, beq_iff_eq, beq_eq_false_iff_ne, ne_eq] at *; omega)) | with_reducible refine br (fun _ => ?_) (fun _ => ?_) | with_reducible refine ⟨rfl, ?_⟩ | with_reducible refine ARound.succ ?_ | (refine append_cap (xs := [byS 39]) (elems_all objL_hd rfl) (by decide) rfl rfl (by decide) (by decide) (by decide) (by decide) ?_) | with_reducible refine loop_rounds 2 ?_))
    exact leaf rfl (.str _)
  have hpos : 0 < t.length := by cases t with | nil => exact absurd rfl h0 | cons c r => simp
  have hrl : ∀ i, (quoB (t.take i)).length ≤ 2000000 := fun i => by
    have := repB_len 39 (nw := [39, 39]) (k := 2) (by decide) (by omega) (t.take i)
    have h2 : (t.take i).length ≤ t.length := by rw [List.length_take]; omega
    show (repB 39 [39, 39] (t.take i)).length ≤ _
    omega
  iterate 6 (all_goals (try conv => whnf); all_goals (try first | with_reducible refine brY (by assumption) ?_ | with_reducible refine brN (by assumption) ?_ | (with_reducible refine brT ?_ ?_; · (simp only [Bool.and_eq_true, Bool.not_eq_true', decide_eq_true_eq, decide_eq_false_iff_not, beq_iff_eq, beq_eq_false_iff_ne, ne_eq] at *; omega)) | with_reducible refine br (fun _ => ?_) (fun _ => ?_) | with_reducible refine ⟨rfl, ?_⟩ | with_reducible refine ARound.succ ?_))
  refine loop_two (σ := QxS t) (fun s => [(0, SV.str t), (2, SV.str []), (3, SV.sl 2 s.g 1 0 (39 :: quoB (t.take s.i)).length none), (4, SV.int IntKind.i64 s.i)])
    (fun s => ⟨3, [(2, bufO 5 s.g (39 :: quoB (t.take s.i))), (1, .vec 0 1 [byS (t.getD 0 0)] ⟨false, some 5⟩), (0, .vec 0 1 [byS 39] ⟨false, some 5⟩)]⟩) (fun s => t.length - s.i) t.length 3 (by show 0 + 1 ≤ 3; omega) ?_ ?_
  · have hd : decide ((0 : Int) < ((t.length : Nat) : Int)) = true := decide_eq_true (by omega)
    have e71 : IntKind.i64.wrap (0 + 1) = ((1 : Nat) : Int) := by decide
    have hr := quo_take (t := t) (i := 0) hpos
    by_cases hc : t.getD 0 0 = 39
    · have q : (((t.getD (Int.toNat 0) 0).toNat : Int) == 39) = true := by rw [show Int.toNat 0 = 0 from rfl, eb]; exact decide_eq_true hc
      rw [if_pos hc] at hr
      iterate 30 (all_goals (try conv => whnf); all_goals (try first | with_reducible refine brY (by assumption) ?_ | with_reducible refine brN (by assumption) ?_ | (with_reducible refine brT ?_ ?_; · (simp only [Bool.and_eq_true, Bool.not_eq_true', decide_eq_true_eq, decide_eq_false_iff_not, beq_iff_eq, beq_eq_false_iff_ne, ne_eq] at *; omega)) | with_reducible refine br (fun _ => ?_) (fun _ => ?_) | with_reducible refine ⟨rfl, ?_⟩ | with_reducible refine ARound.succ ?_ | (refine append_cap (xs := [byS (t.getD 0 0)]) (elems_all objL_hd rfl) (by simp) rfl rfl (by simp) (by simp) (by simp) (by simp) ?_) | (refine append_one (o := [39, t.getD 0 0]) (i := 2) (c := byS 39) rfl (by omega) rfl (by simp) ?_) | (refine allLtK_of lt_by ?_) | (refine allLtK_of (lt_one rfl) ?_) | (refine allLtK_of (lt_by (s := [39, t.getD 0 0, 39])) ?_)))
      refine ⟨⟨1, 1, by omega, hpos⟩, by dsimp only; omega, ?_, ?_⟩
      · rw [e71, hr]; rfl
      · dsimp only; rw [hr, show Int.toNat 0 = 0 from rfl, hc]; rfl
    · have q : (((t.getD (Int.toNat 0) 0).toNat : Int) == 39) = false := by rw [show Int.toNat 0 = 0 from rfl, eb]; exact decide_eq_false hc
      rw [if_neg hc] at hr
      iterate 30 (all_goals (try conv => whnf); all_goals (try first | with_reducible refine brY (by assumption) ?_ | with_reducible refine brN (by assumption) ?_ | (with_reducible refine brT ?_ ?_; · (simp only [Bool.and_eq_true, Bool.not_eq_true', decide_eq_true_eq, decide_eq_false_iff_not, beq_iff_eq, beq_eq_false_iff_ne, ne_eq] at *; omega)) | with_reducible refine br (fun _ => ?_) (fun _ => ?_) | with_reducible refine ⟨rfl, ?_⟩ | with_reducible refine ARound.succ ?_ | (refine append_cap (xs := [byS (t.getD 0 0)]) (elems_all objL_hd rfl) (by simp) rfl rfl (by simp) (by simp) (by simp) (by simp) ?_)))
      refine ⟨⟨1, 0, by omega, hpos⟩, by dsimp only; omega, ?_, ?_⟩
      · rw [e71, hr]; rfl
      · dsimp only; rw [hr]; rfl
  · rintro ⟨i, g, h1, hi⟩
    dsimp only
    have qg : Nat.beq g g = true := nbeq_self g
    have hr1 := hrl i
    by_cases hil : i < t.length
    · have hd : decide ((i : Int) < ((t.length : Nat) : Int)) = true := decide_eq_true (by omega)
      have e71 : IntKind.i64.wrap ((i : Int) + 1) = ((i + 1 : Nat) : Int) := w64add (by omega)
      have hr := quo_take (t := t) (i := i) hil
      have gi := Int.toNat_natCast i
      by_cases hc : t.getD i 0 = 39
      · have q : (((t.getD (i : Int).toNat 0).toNat : Int) == 39) = true := by rw [gi, eb]; exact decide_eq_true hc
        rw [if_pos hc] at hr
        have hx : SV.int .u8 ((t.getD (i : Int).toNat 0).toNat : Int) = byS 39 := by rw [gi, hc]
        iterate 40 (all_goals (try conv => whnf); all_goals (try first | with_reducible refine brY (by assumption) ?_ | with_reducible refine brN (by assumption) ?_ | (with_reducible refine brT ?_ ?_; · (simp only [Bool.and_eq_true, Bool.not_eq_true', decide_eq_true_eq, decide_eq_false_iff_not, beq_iff_eq, beq_eq_false_iff_ne, ne_eq] at *; omega)) | with_reducible refine br (fun _ => ?_) (fun _ => ?_) | with_reducible refine ⟨rfl, ?_⟩ | with_reducible refine ARound.succ ?_ | (refine append_el (i := 2) (elems := (39 :: quoB (t.take i)).map byS) rfl (by simp) (by omega) rfl (by simp only [List.length_cons]; omega) ?_) | (refine append_el (i := 2) (elems := (39 :: quoB (t.take i)).map byS ++ [SV.int .u8 ((t.getD (i : Int).toNat 0).toNat : Int)]) rfl (by simp) (by omega) rfl (by simp only [List.length_cons]; omega) ?_) | (refine allLtK_of lt_by1 ?_) | (refine allLtK_of lt_by2 ?_) | (refine allLtK_of (lt_one rfl) ?_)))
        refine ⟨⟨i + 1, g + 1 + 1, by omega, hil⟩, by dsimp only; omega, ?_, ?_⟩
        · rw [e71, hr]; simp
        · dsimp only; rw [hx, hr]; simp
      · have q : (((t.getD (i : Int).toNat 0).toNat : Int) == 39) = false := by rw [gi, eb]; exact decide_eq_false hc
        rw [if_neg hc] at hr
        iterate 40 (all_goals (try conv => whnf); all_goals (try first | with_reducible refine brY (by assumption) ?_ | with_reducible refine brN (by assumption) ?_ | (with_reducible refine brT ?_ ?_; · (simp only [Bool.and_eq_true, Bool.not_eq_true', decide_eq_true_eq, decide_eq_false_iff_not, beq_iff_eq, beq_eq_false_iff_ne, ne_eq] at *; omega)) | with_reducible refine br (fun _ => ?_) (fun _ => ?_) | with_reducible refine ⟨rfl, ?_⟩ | with_reducible refine ARound.succ ?_ | (refine append_el (i := 2) (elems := (39 :: quoB (t.take i)).map byS) rfl (by simp) (by omega) rfl (by simp only [List.length_cons]; omega) ?_) | (refine allLtK_of lt_by1 ?_) | (refine allLtK_of lt_by2 ?_) | (refine allLtK_of (lt_one rfl) ?_)))
        refine ⟨⟨i + 1, g + 1, by omega, hil⟩, by dsimp only; omega, ?_, ?_⟩
        · rw [e71, hr]; simp
        · dsimp only; rw [hr]; simp
    · have hd : decide ((i : Int) < ((t.length : Nat) : Int)) = false := decide_eq_false (by omega)
      have ht : t.take i = t := List.take_of_length_le (by omega)
      rw [ht] at hr1
      rw [ht]
      have qg1 : Nat.beq (g + 1) (g + 1) = true := nbeq_self _
      iterate 20 (all_goals (try conv => whnf); all_goals (try first | with_reducible refine brY (by assumption) ?_ | with_reducible refine brN (by assumption) ?_ | (with_reducible refine brT ?_ ?_; · (simp only [Bool.and_eq_true, Bool.not_eq_true', decide_eq_true_eq, decide_eq_false_iff_not, beq_iff_eq, beq_eq_false_iff_ne, ne_eq] at *; omega)) | with_reducible refine br (fun _ => ?_) (fun _ => ?_) | with_reducible refine ⟨rfl, ?_⟩ | with_reducible refine ARound.succ ?_ | (refine append_one (o := 39 :: quoB t) (i := 2) (c := byS 39) rfl (by omega) rfl (by simp only [List.length_cons]; omega) ?_) | (refine takeN_all (by simp) ?_) | (refine bytesK_run2 (s := quoB t ++ [39]) (by simp) ?_)))
      refine leaf ?_ (.str _)
      simp
end Go.Proofs.YtlhpbcbkkbjhoaaGreatDoor
namespace Go.Proofs.YtlhpbcbkkbjhoaaGreatDoor
open Ab Go.RowKit
set_option maxRecDepth 100000
set_option linter.unusedVariables false
set_option linter.unusedSimpArgs false
set_option maxHeartbeats 4000000
set_option pp.maxSteps 3000
/-- Which is the first that may not be. -/
def badI : List TI → Nat → Option Nat
  | [], _ => none
  | x :: r, i => if fineI x then badI r (i + 1) else some i
theorem badI_none : ∀ {l : List TI} {i : Nat}, badI l i = none → ∀ x ∈ l, fineI x = true
  | [], _, _ => by simp
  | x :: r, i, h => by
    rw [badI] at h
    split at h
    · rename_i hx
      simp only [List.mem_cons]
      rintro y (rfl | hy)
      · exact hx
      · exact badI_none h y hy
    · cases h
theorem badI_some : ∀ {l : List TI} {i j : Nat}, badI l i = some j → i ≤ j ∧ j < i + l.length
  | [], _, _, h => by cases h
  | x :: r, i, j, h => by
    rw [badI] at h
    simp only [List.length_cons]
    split at h
    · have := badI_some h
      omega
    · cases h; omega
theorem badI_at : ∀ (l : List TI) (k i : Nat), i < l.length → (∀ j, j < i → fineI (l.getD j inull) = true) → fineI (l.getD i inull) = false → badI l k = some (k + i)
  | [], _, _, h, _, _ => by simp at h
  | x :: r, k, 0, _, _, h => by
    rw [badI, if_neg (by rw [show fineI x = false from h]; decide)]; rfl
  | x :: r, k, i + 1, hi, h1, h2 => by
    rw [badI, if_pos (show fineI x = true from h1 0 (by omega)), badI_at r (k + 1) i (by simpa using hi) (fun j hj => h1 (j + 1) (by omega)) h2]
    congr 1
    omega
theorem badI_all : ∀ (l : List TI) (k : Nat), (∀ j, j < l.length → fineI (l.getD j inull) = true) → badI l k = none
  | [], _, _ => rfl
  | x :: r, k, h => by
    rw [badI, if_pos (show fineI x = true from h 0 (by simp)), badI_all r (k + 1) fun j hj => h (j + 1) (by simpa using hj)]
/-- What is told of tokens. -/
def textI (l : List TI) : SV := match badI l 0 with
  | some i => .tup [.str [], fltS 2 i]
  | none => .tup [.str (joinT (l.map (·.1))), fltS 0 0]
theorem textI_lit (l : List TI) : LitV (textI l) := by
  have hf : ∀ e a : Int, LitV (fltS e a) := fun e a => .agg (by simp only [List.mem_cons, List.not_mem_nil, or_false]; rintro _ (rfl | rfl) <;> constructor)
  unfold textI
  split <;> exact lit2 (.str _) (hf _ _)
theorem join_joinT : ∀ l : List Tk, Lib.join (l.map saidL) [32] = joinT l
  | [] => rfl
  | [x] => by simp [Lib.join, joinT, List.intercalate]
  | x :: y :: r => by
    rw [joinT, ← join_joinT (y :: r)]
    simp [Lib.join, List.intercalate]
theorem dec_len : ∀ (k n : Nat), n < 10 ^ (k + 1) → (Lib.decDigits n).length ≤ k + 1
  | 0, n, h => by rw [Lib.decDigits, dif_pos (by simpa using h)]; simp
  | k+1, n, h => by
    rw [Lib.decDigits]
    split
    · simp
    · have := dec_len k (n / 10) (by rw [Nat.pow_succ] at h; omega)
      simp only [List.length_append, List.length_cons, List.length_nil]
      omega
theorem fine_len {x : Tk} (h : fineT x = true) : (saidL x).length ≤ 65536 ∧ x.t.length ≤ 65536 ∧ (x.k = 3 → x.t.length ≤ 64) := by
  unfold fineT at h
  split at h
  · cases h
  · split at h
    · rename_i h2
      simp only [Bool.and_eq_true, beq_iff_eq, decide_eq_true_eq] at h
      have hs : saidL x = Lib.decDigits x.n := by unfold saidL; rw [if_pos h2]
      have := dec_len 19 x.n (by omega)
      refine ⟨by rw [hs]; omega, by rw [h.1]; simp, fun h3 => by omega⟩
    · rename_i h2
      split at h
      · cases h
      · rename_i h3
        split at h
        · cases h
        · rename_i h4
          refine ⟨by omega, ?_, fun hk => by have : ¬ 64 < x.t.length := fun h' => h3 ⟨hk, .inl h'⟩; omega⟩
          by_cases hk : x.k = 3
          · have : ¬ 64 < x.t.length := fun h' => h3 ⟨hk, .inl h'⟩
            omega
          · have : saidL x = x.t := by unfold saidL; rw [if_neg h2, if_neg hk]
            rw [← this]; omega
theorem fine_in {x : Tk} (h : fineT x = true) : x.n < 18446744073709551616 ∧ x.t.length ≤ 9223372036854775807 := by
  have hl := (fine_len h).2.1
  refine ⟨?_, by omega⟩
  unfold fineT at h
  split at h
  · cases h
  · rename_i h1
    split at h
    · simp only [Bool.and_eq_true, beq_iff_eq, decide_eq_true_eq] at h; omega
    · rename_i h2
      have : x.n = 0 := by
        rcases Nat.eq_zero_or_pos x.n with h0 | h0
        · exact h0
        · exact absurd (.inl ⟨h2, by omega⟩) h1
      omega
attribute [local irreducible] appendK allLtK storeP
@[reducible] def wordsT (l : List TI) (i : Nat) : List SV := ((l.take i).map fun x => SV.str (saidL x.1)) ++ List.replicate (l.length - i) (SV.str [])
theorem words_get {l : List TI} {i : Nat} (h : i < l.length) : (wordsT l i)[0 + i]? = some (SV.str []) := by
  have h1 : ((l.take i).map fun x => SV.str (saidL x.1)).length = i := by simp; omega
  rw [Nat.zero_add]
  unfold wordsT
  rw [List.getElem?_append_right (by omega), h1, Nat.sub_self, List.getElem?_replicate, if_pos (by omega)]
theorem words_set {l : List TI} {i : Nat} (h : i < l.length) : (wordsT l i).set (0 + i) (SV.str (saidL (l.getD i inull).1)) = wordsT l (i + 1) := by
  have h1 : ((l.take i).map fun x => SV.str (saidL x.1)).length = i := by simp; omega
  rw [Nat.zero_add]
  unfold wordsT
  have e : List.replicate (l.length - i) (SV.str []) = SV.str [] :: List.replicate (l.length - (i + 1)) (SV.str []) := by rw [show l.length - i = (l.length - (i + 1)) + 1 by omega]; rfl
  have e2 : l.take (i + 1) = l.take i ++ [l.getD i inull] := by rw [List.take_add_one]; simp [List.getD, h]
  rw [List.set_append_right _ _ (by omega), h1, Nat.sub_self, e, List.set_cons_zero, e2, List.map_append, List.append_assoc]
  rfl
theorem agree_ws : ∀ (s : List (List UInt8)) (k : Nat) (get : Nat → SV), (∀ j, j < s.length → get (k + j) = SV.str (s.getD j [])) → agree (s.map SV.str) k get
  | [], _, _, _ => trivial
  | b :: r, k, get, h => by
    refine ⟨?_, .str _, agree_ws r (k + 1) get fun j hj => ?_⟩
    · have := h 0 (by simp)
      simpa using this.symm
    · have := h (j + 1) (by simp; omega)
      rw [show k + 1 + j = k + (j + 1) by omega, this]
      simp [List.getD]
theorem hard_ws {A : Heap} {i g : Nat} {cap : Option Nat} {s : List (List UInt8)} {n : Nat} {sk : Sk} (ho : A.obj i = some (.vec g 1 (s.map SV.str) sk)) (hn : n = s.length) : Hard A (.sl i g 1 0 n cap) (lstS s) := by
  subst hn
  have := hard_all (cap := cap) (get := fun i => SV.str (s.getD i [])) ho (agree_ws s 0 _ fun j _ => by rw [Nat.zero_add])
  rw [List.length_map] at this
  exact this
theorem lt_ws {n : Nat} {l : List TI} {i : Nat} : ∀ v ∈ wordsT l i, SV.lt 8 n v = true := by
  intro v hv
  rcases List.mem_append.1 hv with h | h
  · obtain ⟨b, _, rfl⟩ := List.mem_map.1 h; rfl
  · rw [List.eq_of_mem_replicate h]; rfl
theorem fineI_tk {x : TI} (h : fineI x = true) : fineT x.1 = true := by
  unfold fineI at h
  simp only [Bool.and_eq_true] at h
  exact h.2
theorem toks_any {l : List TI} (hl : l.length ≤ 5000) (hin : ∀ x ∈ l, x.1.n < 18446744073709551616 ∧ x.1.t.length ≤ 9223372036854775807) : PCall Tryz.prog 7 [lstI l] (textI l) := by
  refine pcall_of (lits1 (.lst _ _ _)) (call7 rfl ?_)
  have q1 : (decide (0 ≤ (l.length : Int)) && decide ((l.length : Int) ≤ (l.length : Int)) && decide (((16 : Nat) : Int) * (l.length : Int) ≤ 140737488355328) && decide ((l.length : Int) ≤ 9223372036854775807)) = true := by
    simp only [Bool.and_eq_true, decide_eq_true_eq]; omega
  iterate 10 (all_goals (try conv => whnf); all_goals (try first | with_reducible refine brY (by assumption) ?_ | with_reducible refine brN (by assumption) ?_ | (with_reducible refine brT ?_ ?_; · (simp only [Bool.and_eq_true, Bool.not_eq_true', decide_eq_true_eq, decide_eq_false_iff_not, beq_iff_eq, beq_eq_false_iff_ne, ne_eq] at *; omega)) | with_reducible refine br (fun _ => ?_) (fun _ => ?_) | with_reducible refine ⟨rfl, ?_⟩ | with_reducible refine ARound.succ ?_ | (refine storeP_of ?_)))
  refine loop_ind (σ := {i : Nat // i ≤ l.length ∧ ∀ j, j < i → fineI (l.getD j inull) = true}) (fun y => [(0, lstI l), (2, SV.str []), (3, SV.ref 0 0 0 0), (4, SV.sl 1 0 1 0 l.length (some l.length)), (10, lstI l), (11, SV.int IntKind.i64 l.length), (12, SV.int IntKind.i64 y.1)])
    (fun y => ⟨2, [(1, .vec 0 1 (wordsT l y.1) ⟨false, some 9⟩), (0, .vec 0 2 [fltS 0 0] ⟨false, some 30⟩)]⟩) (fun y => l.length - y.1) ?_ ⟨0, by omega, fun j hj => by omega⟩
  rintro ⟨i, hi, hf⟩
  dsimp only
  have e7 : IntKind.i64.wrap ((i : Int) + 1) = ((i + 1 : Nat) : Int) := w64add (by omega)
  have et := Int.toNat_natCast i
  by_cases hil : i < l.length
  · have hd : decide ((i : Int) < (l.length : Int)) = true := decide_eq_true (by omega)
    have hb : (decide (0 ≤ (i : Int)) && decide ((i : Int) < (l.length : Int))) = true := by simp only [Bool.and_eq_true, decide_eq_true_eq]; omega
    have hm : l.getD i inull ∈ l := by
      rw [show l.getD i inull = l[i] by simp [List.getD, hil]]
      exact List.getElem_mem _
    obtain ⟨hn, ht⟩ := hin _ hm
    have cf := fine_any hn ht
    rw [← et] at cf
    cases hfi : fineI (l.getD i inull) with
    | false =>
      rw [← et] at hfi
      rw [hfi] at cf
      rw [et] at hfi
      have hbad := badI_at l 0 i hil hf hfi
      rw [Nat.zero_add] at hbad
      iterate 40 (all_goals (try conv => whnf); all_goals (try first | with_reducible refine brY (by assumption) ?_ | with_reducible refine brN (by assumption) ?_ | (with_reducible refine brT ?_ ?_; · (simp only [Bool.and_eq_true, Bool.not_eq_true', decide_eq_true_eq, decide_eq_false_iff_not, beq_iff_eq, beq_eq_false_iff_ne, ne_eq] at *; omega)) | with_reducible refine br (fun _ => ?_) (fun _ => ?_) | with_reducible refine ⟨rfl, ?_⟩ | with_reducible refine ARound.succ ?_ | with_reducible refine PCall.call (cf) ?_ | (refine storeP_of ?_)))
      exact leaf (by unfold textI; rw [hbad]) (textI_lit l)
    | true =>
      obtain ⟨fl1, fl2, fl3⟩ := fine_len (fineI_tk hfi)
      have cs := said_any (x := l.getD i inull) (fun h => Nat.le_trans (fl3 h) (by decide)) hn
      rw [← et] at cs
      rw [← et] at hfi
      rw [hfi] at cf
      rw [et] at hfi
      iterate 60 (all_goals (try conv => whnf); all_goals (try first | with_reducible refine brY (by assumption) ?_ | with_reducible refine brN (by assumption) ?_ | (with_reducible refine brT ?_ ?_; · (simp only [Bool.and_eq_true, Bool.not_eq_true', decide_eq_true_eq, decide_eq_false_iff_not, beq_iff_eq, beq_eq_false_iff_ne, ne_eq] at *; omega)) | with_reducible refine br (fun _ => ?_) (fun _ => ?_) | with_reducible refine ⟨rfl, ?_⟩ | with_reducible refine ARound.succ ?_ | with_reducible refine PCall.call (cf) ?_ | with_reducible refine PCall.call (cs) ?_ | (refine storeP_run (elems := wordsT l i) (w := SV.str []) rfl (by rw [et]; exact words_get hil) (by intro cs h; cases h) rfl ?_) | (refine storeP_of ?_) | (refine allLtK_of (by rw [et, words_set hil]; exact lt_ws) ?_) | (refine allLtK_of (lt_one rfl) ?_)))
      refine ⟨⟨i + 1, hil, fun j hj => ?_⟩, by dsimp only; omega, by rw [e7], ?_⟩
      · rcases (by omega : j < i ∨ j = i) with h | rfl
        · exact hf j h
        · exact hfi
      · dsimp only
        rw [← words_set hil]
        rfl
  · have hd : decide ((i : Int) < (l.length : Int)) = false := decide_eq_false (by omega)
    obtain rfl : i = l.length := by omega
    have hnone := badI_all l 0 hf
    have hall := badI_none hnone
    have ej : (l.map fun x => saidL x.1) = (l.map (·.1)).map saidL := by rw [List.map_map]; rfl
    have hjl := joinT_len (k := 65536) (l := l.map (·.1)) fun x hx => by
      obtain ⟨y, hy, rfl⟩ := List.mem_map.1 hx
      exact (fine_len (fineI_tk (hall y hy))).1
    rw [List.length_map] at hjl
    have cj := join_any (l := l.map fun x => saidL x.1) (sep := [32]) (by rw [List.length_map]; omega) (by
      rw [ej, join_joinT]
      have : l.length * (65536 + 1) ≤ 5000 * (65536 + 1) := Nat.mul_le_mul_right _ hl
      omega)
    have ew : wordsT l l.length = (l.map fun x => saidL x.1).map SV.str := by
      unfold wordsT
      rw [List.take_length, Nat.sub_self, List.map_map]
      simp
    rw [ew]
    iterate 40 (all_goals (try conv => whnf); all_goals (try first | with_reducible refine brY (by assumption) ?_ | with_reducible refine brN (by assumption) ?_ | (with_reducible refine brT ?_ ?_; · (simp only [Bool.and_eq_true, Bool.not_eq_true', decide_eq_true_eq, decide_eq_false_iff_not, beq_iff_eq, beq_eq_false_iff_ne, ne_eq] at *; omega)) | with_reducible refine br (fun _ => ?_) (fun _ => ?_) | with_reducible refine ⟨rfl, ?_⟩ | with_reducible refine ARound.succ ?_ | (refine PCall.lend cj (fun j => Nat.beq j 1) (.cons (hard_ws rfl (by rw [List.length_map])) (.cons (.lit (.str _)) .nil)) (.str _) ?_) | (refine storeP_of ?_)))
    exact leaf (by unfold textI; rw [hnone, ej, join_joinT]) (textI_lit l)
end Go.Proofs.YtlhpbcbkkbjhoaaGreatDoor
namespace Go.Proofs.YtlhpbcbkkbjhoaaGreatDoor
open Ab Go.RowKit
set_option maxRecDepth 100000
set_option linter.unusedVariables false
set_option linter.unusedSimpArgs false
set_option maxHeartbeats 4000000
set_option pp.maxSteps 3000
theorem rsaid_any {x : TI} (h3 : x.1.t.length ≤ 4000) (hn : x.1.n < 18446744073709551616) : PCall Tryz.prog 20 [tokI x] (.str (saidL x.1)) := by
  obtain ⟨⟨k, t, n⟩, a⟩ := x
  dsimp only at h3 hn
  refine pcall_of (lits1 (tokI_lit _)) (call20 rfl ?_)
  by_cases k2 : k = 2
  · subst k2
    have cf := digits_any 19 (n := n) (by omega) hn
    iterate 20 (all_goals (try conv => whnf); all_goals (try first | with_reducible refine brY (by assumption) ?_ | with_reducible refine brN (by assumption) ?_ | (with_reducible refine brT ?_ ?_; · (simp only [Bool.and_eq_true, Bool.not_eq_true', decide_eq_true_eq, decide_eq_false_iff_not, beq_iff_eq, beq_eq_false_iff_ne, ne_eq] at *; omega)) | with_reducible refine br (fun _ => ?_) (fun _ => ?_) | with_reducible refine ⟨rfl, ?_⟩ | with_reducible refine ARound.succ ?_ | with_reducible refine PCall.call (cf) ?_))
    exact leaf rfl (.str _)
  by_cases k3 : k = 3
  · subst k3
    have cr := quoted_any (t := t) (by omega)
    rw [show quoB t = quot t from quot_rep t] at cr
    iterate 20 (all_goals (try conv => whnf); all_goals (try first | with_reducible refine brY (by assumption) ?_ | with_reducible refine brN (by assumption) ?_ | (with_reducible refine brT ?_ ?_; · (simp only [Bool.and_eq_true, Bool.not_eq_true', decide_eq_true_eq, decide_eq_false_iff_not, beq_iff_eq, beq_eq_false_iff_ne, ne_eq] at *; omega)) | with_reducible refine br (fun _ => ?_) (fun _ => ?_) | with_reducible refine ⟨rfl, ?_⟩ | with_reducible refine ARound.succ ?_ | with_reducible refine PCall.call (cr) ?_))
    exact leaf rfl (.str _)
  · have q2 : (k == 2) = false := by rw [beq_eq_false_iff_ne]; exact k2
    have q3 : (k == 3) = false := by rw [beq_eq_false_iff_ne]; exact k3
    iterate 20 (all_goals (try conv => whnf); all_goals (try first | with_reducible refine brY (by assumption) ?_ | with_reducible refine brN (by assumption) ?_ | (with_reducible refine brT ?_ ?_; · (simp only [Bool.and_eq_true, Bool.not_eq_true', decide_eq_true_eq, decide_eq_false_iff_not, beq_iff_eq, beq_eq_false_iff_ne, ne_eq] at *; omega)) | with_reducible refine br (fun _ => ?_) (fun _ => ?_) | with_reducible refine ⟨rfl, ?_⟩ | with_reducible refine ARound.succ ?_))
    exact leaf (by unfold saidL; rw [if_neg k2, if_neg k3]) (.str _)
theorem fine_kind {x : Tk} (h : fineT x = true) : 1 ≤ x.k ∧ x.k ≤ 4 ∧ (x.k = 2 → x.t = []) := by
  have h1 := (fine_one h).1
  rcases oneL_kind h1 with k | k | k | k
  · exact ⟨by omega, by omega, fun e => by omega⟩
  · refine ⟨by omega, by omega, fun e => ?_⟩
    unfold fineT at h
    split at h
    · cases h
    · simp only [Bool.and_eq_true, beq_iff_eq] at h
      exact h.1
  · exact ⟨by omega, by omega, fun e => by omega⟩
  · exact ⟨by omega, by omega, fun e => by omega⟩
theorem fine_short {x : Tk} (h : fineT x = true) : 0 < (saidL x).length ∧ (saidL x).length ≤ 256 ∧ isBlank ((saidL x).getD 0 0) = false := by
  obtain ⟨h1, h2⟩ := fine_one h
  obtain ⟨c1, c2, _⟩ := oneL_cut h1
  refine ⟨by omega, ?_, h2⟩
  have hl := fine_len h
  by_cases k2 : x.k = 2
  · have : saidL x = Lib.decDigits x.n := by unfold saidL; rw [if_pos k2]
    have hn : x.n < 18446744073709551616 := (fine_in h).1
    rw [this]
    have := dec_len 19 x.n (by omega)
    omega
  · by_cases k3 : x.k = 3
    · have hs : saidL x = 39 :: (quot x.t ++ [39]) := by unfold saidL; rw [if_neg k2, if_pos k3]
      have h64 := hl.2.2 k3
      have := quot_len x.t
      rw [hs]
      simp only [List.length_cons, List.length_append, List.length_nil]
      omega
    · have hs : saidL x = x.t := by unfold saidL; rw [if_neg k2, if_neg k3]
      obtain ⟨n, hn⟩ : ∃ n, oneL (saidL x) = .ok x n := ⟨_, h1⟩
      have hk := fine_kind h
      rw [hs] at h1 ⊢
      match ht : x.t, h1 with
      | [], _ => simp
      | c :: r, h1 =>
        unfold oneL at h1
        dsimp only at h1
        split at h1
        · rw [wordL_eq] at h1
          split at h1
          · cases h1
          · rename_i h32
            have hlen : ((c :: r).takeWhile isWordC).length = (c :: r).length := by injection h1
            rw [← hlen]; omega
        · split at h1
          · unfold numberL at h1
            dsimp only at h1
            split at h1
            · cases h1
            · have : x.k = 2 := by injection h1 with e _; rw [← e]
              exact absurd this k2
          · split at h1
            · have := textGo_kind _ _ _ _ _ _ _ h1
              exact absurd this k3
            · rw [signD_eq (by simp)] at h1
              unfold signD at h1
              split at h1
              · have : 2 = (c :: r).length := by injection h1
                omega
              · split at h1
                · have : 1 = (c :: r).length := by injection h1
                  omega
                · cases h1
/-- May a token be: by the one that its text begins with. -/
theorem fine_next {x : Tk} (hk1 : 1 ≤ x.k) (hk4 : x.k ≤ 4) (hb : isBlank ((saidL x).getD 0 0) = false) : fineT x = match oneL (saidL x) with
    | .ok y n => n == (saidL x).length && (y.k == x.k && y.t == x.t && y.n == x.n)
    | .err _ => false := by
  cases ho : oneL (saidL x) with
  | err e =>
    rw [Bool.eq_false_iff]
    intro h
    rw [(fine_one h).1] at ho
    cases ho
  | ok y n =>
    dsimp only
    rw [Bool.eq_iff_iff]
    constructor
    · intro h
      rw [(fine_one h).1] at ho
      cases ho
      simp
    · intro h
      simp only [Bool.and_eq_true, beq_iff_eq] at h
      have : y = x := by
        obtain ⟨a, b, c⟩ := y
        obtain ⟨a', b', c'⟩ := x
        obtain ⟨_, ⟨rfl, rfl⟩, rfl⟩ := h
        rfl
      subst this
      rcases oneL_kind ho with k | k | k | k
      · exact k.2.2.2
      · exact k.2
      · exact k.2.2.2
      · exact k.2.2.2
theorem rmay_any {x : TI} (hn : x.1.n < 18446744073709551616) (ht : x.1.t.length ≤ 4000) : PCall Tryz.prog 19 [tokI x] (.bool (fineI x)) := by
  have hsaid := rsaid_any (x := x) ht hn
  obtain ⟨⟨k, t, n⟩, a⟩ := x
  dsimp only at hn ht hsaid
  refine pcall_of (lits1 (tokI_lit _)) (call19 rfl ?_)
  have hfk : ∀ {x : Tk}, (x.k < 1 ∨ 4 < x.k ∨ (x.k = 2 ∧ x.t ≠ [])) → fineT x = false := fun h => by
    rw [Bool.eq_false_iff]
    intro hf
    obtain ⟨h1, h2, h3⟩ := fine_kind hf
    rcases h with h | h | h
    · omega
    · omega
    · exact h.2 (h3 h.1)
  by_cases ka : k < 1
  · have q1 : decide (k < 1) = true := decide_eq_true ka
    iterate 40 (all_goals (try conv => whnf); all_goals (try first | with_reducible refine brY (by assumption) ?_ | with_reducible refine brN (by assumption) ?_ | (with_reducible refine brT ?_ ?_; · (simp only [Bool.and_eq_true, Bool.not_eq_true', decide_eq_true_eq, decide_eq_false_iff_not, beq_iff_eq, beq_eq_false_iff_ne, ne_eq] at *; omega)) | with_reducible refine br (fun _ => ?_) (fun _ => ?_) | with_reducible refine ⟨rfl, ?_⟩ | with_reducible refine ARound.succ ?_))
    exact leaf (by unfold fineI; rw [hfk (.inl ka), Bool.and_false]) (.bool _)
  have q1 : decide (k < 1) = false := decide_eq_false ka
  by_cases kb : 4 < k
  · have q2 : decide (4 < k) = true := decide_eq_true kb
    iterate 40 (all_goals (try conv => whnf); all_goals (try first | with_reducible refine brY (by assumption) ?_ | with_reducible refine brN (by assumption) ?_ | (with_reducible refine brT ?_ ?_; · (simp only [Bool.and_eq_true, Bool.not_eq_true', decide_eq_true_eq, decide_eq_false_iff_not, beq_iff_eq, beq_eq_false_iff_ne, ne_eq] at *; omega)) | with_reducible refine br (fun _ => ?_) (fun _ => ?_) | with_reducible refine ⟨rfl, ?_⟩ | with_reducible refine ARound.succ ?_))
    exact leaf (by unfold fineI; rw [hfk (.inr (.inl kb)), Bool.and_false]) (.bool _)
  have q2 : decide (4 < k) = false := decide_eq_false kb
  by_cases ha : a = 0
  case neg =>
    have q3 : (a != 0) = true := by rw [bne_iff_ne]; exact ha
    iterate 40 (all_goals (try conv => whnf); all_goals (try first | with_reducible refine brY (by assumption) ?_ | with_reducible refine brN (by assumption) ?_ | (with_reducible refine brT ?_ ?_; · (simp only [Bool.and_eq_true, Bool.not_eq_true', decide_eq_true_eq, decide_eq_false_iff_not, beq_iff_eq, beq_eq_false_iff_ne, ne_eq] at *; omega)) | with_reducible refine br (fun _ => ?_) (fun _ => ?_) | with_reducible refine ⟨rfl, ?_⟩ | with_reducible refine ARound.succ ?_))
    exact leaf (by unfold fineI; rw [decide_eq_false (show ¬ (a = 0) from ha)]; rfl) (.bool _)
  subst ha
  have hI : fineI (⟨k, t, n⟩, 0) = fineT ⟨k, t, n⟩ := by unfold fineI; simp
  rw [hI]
  by_cases k2t : k = 2 ∧ t ≠ []
  · obtain ⟨rfl, ht0⟩ := k2t
    have q4 : (!(t == [])) = true := by rw [show (t == []) = false from beq_eq_false_iff_ne.2 ht0]; rfl
    iterate 40 (all_goals (try conv => whnf); all_goals (try first | with_reducible refine brY (by assumption) ?_ | with_reducible refine brN (by assumption) ?_ | (with_reducible refine brT ?_ ?_; · (simp only [Bool.and_eq_true, Bool.not_eq_true', decide_eq_true_eq, decide_eq_false_iff_not, beq_iff_eq, beq_eq_false_iff_ne, ne_eq] at *; omega)) | with_reducible refine br (fun _ => ?_) (fun _ => ?_) | with_reducible refine ⟨rfl, ?_⟩ | with_reducible refine ARound.succ ?_))
    exact leaf (by rw [hfk (.inr (.inr ⟨rfl, ht0⟩))]) (.bool _)
  have hq : (k == 2) = false ∨ ((k == 2) = true ∧ (!(t == [])) = false) := by
    by_cases k2 : k = 2
    · right
      subst k2
      refine ⟨rfl, ?_⟩
      by_cases t0 : t = []
      · subst t0; rfl
      · exact absurd ⟨rfl, t0⟩ k2t
    · left; rw [beq_eq_false_iff_ne]; exact k2
  have hfn := fine_next (x := ⟨k, t, n⟩) (by dsimp only; omega) (by dsimp only; omega)
  have hfs := fine_short (x := ⟨k, t, n⟩)
  generalize saidL ⟨k, t, n⟩ = w at hsaid hfn hfs
  by_cases w0 : w.length = 0
  · have hf : fineT ⟨k, t, n⟩ = false := by
      rw [Bool.eq_false_iff]; intro h; have := (hfs h).1; omega
    have q5 : ((w.length : Int) == 0) = true := by rw [beq_iff_eq]; omega
    rcases hq with hq | ⟨hq, hq2⟩
    all_goals iterate 60 (all_goals (try conv => whnf); all_goals (try first | with_reducible refine brY (by assumption) ?_ | with_reducible refine brN (by assumption) ?_ | (with_reducible refine brT ?_ ?_; · (simp only [Bool.and_eq_true, Bool.not_eq_true', decide_eq_true_eq, decide_eq_false_iff_not, beq_iff_eq, beq_eq_false_iff_ne, ne_eq] at *; omega)) | with_reducible refine br (fun _ => ?_) (fun _ => ?_) | with_reducible refine ⟨rfl, ?_⟩ | with_reducible refine ARound.succ ?_ | with_reducible refine PCall.call (hsaid) ?_))
    all_goals exact leaf (by rw [hf]) (.bool _)
  have q5 : ((w.length : Int) == 0) = false := by rw [beq_eq_false_iff_ne]; omega
  by_cases w256 : 256 < w.length
  · have hf : fineT ⟨k, t, n⟩ = false := by
      rw [Bool.eq_false_iff]; intro h; have := (hfs h).2.1; omega
    have q6 : decide ((256 : Int) < (w.length : Int)) = true := decide_eq_true (by omega)
    rcases hq with hq | ⟨hq, hq2⟩
    all_goals iterate 60 (all_goals (try conv => whnf); all_goals (try first | with_reducible refine brY (by assumption) ?_ | with_reducible refine brN (by assumption) ?_ | (with_reducible refine brT ?_ ?_; · (simp only [Bool.and_eq_true, Bool.not_eq_true', decide_eq_true_eq, decide_eq_false_iff_not, beq_iff_eq, beq_eq_false_iff_ne, ne_eq] at *; omega)) | with_reducible refine br (fun _ => ?_) (fun _ => ?_) | with_reducible refine ⟨rfl, ?_⟩ | with_reducible refine ARound.succ ?_ | with_reducible refine PCall.call (hsaid) ?_))
    all_goals exact leaf (by rw [hf]) (.bool _)
  have q6 : decide ((256 : Int) < (w.length : Int)) = false := decide_eq_false (by omega)
  have hb : (decide ((0 : Int) ≤ 0) && decide ((0 : Int) < (w.length : Int))) = true := by simp only [Bool.and_eq_true, decide_eq_true_eq]; omega
  have cb := rblank_any (w.getD (Int.toNat 0) 0)
  cases hbl : isBlank (w.getD (Int.toNat 0) 0) with
  | true =>
    rw [hbl] at cb
    have hf : fineT ⟨k, t, n⟩ = false := by
      rw [Bool.eq_false_iff]; intro h; have := (hfs h).2.2; rw [show w.getD 0 0 = w.getD (Int.toNat 0) 0 from rfl, hbl] at this; cases this
    rcases hq with hq | ⟨hq, hq2⟩
    all_goals iterate 60 (all_goals (try conv => whnf); all_goals (try first | with_reducible refine brY (by assumption) ?_ | with_reducible refine brN (by assumption) ?_ | (with_reducible refine brT ?_ ?_; · (simp only [Bool.and_eq_true, Bool.not_eq_true', decide_eq_true_eq, decide_eq_false_iff_not, beq_iff_eq, beq_eq_false_iff_ne, ne_eq] at *; omega)) | with_reducible refine br (fun _ => ?_) (fun _ => ?_) | with_reducible refine ⟨rfl, ?_⟩ | with_reducible refine ARound.succ ?_ | with_reducible refine PCall.call (hsaid) ?_ | with_reducible refine PCall.call (cb) ?_))
    all_goals exact leaf (by rw [hf]) (.bool _)
  | false =>
    rw [hbl] at cb
    have hfn := hfn hbl
    have hp : 0 < w.length := by omega
    have cn : PCall Tryz.prog 15 [.str w, .int .i64 0] (nextD w 0) := rnext_any (p := 0) (by omega) hp
    cases ho : oneL w with
    | err e =>
      obtain ⟨j, hj⟩ := next_err hp (by rw [List.drop_zero]; exact ho)
      rw [hj] at cn
      have he := oneL_err ho
      have q7 : (e == 0) = false := by rw [beq_eq_false_iff_ne]; exact he
      rw [ho] at hfn
      rcases hq with hq | ⟨hq, hq2⟩
      all_goals iterate 80 (all_goals (try conv => whnf); all_goals (try first | with_reducible refine brY (by assumption) ?_ | with_reducible refine brN (by assumption) ?_ | (with_reducible refine brT ?_ ?_; · (simp only [Bool.and_eq_true, Bool.not_eq_true', decide_eq_true_eq, decide_eq_false_iff_not, beq_iff_eq, beq_eq_false_iff_ne, ne_eq] at *; omega)) | with_reducible refine br (fun _ => ?_) (fun _ => ?_) | with_reducible refine ⟨rfl, ?_⟩ | with_reducible refine ARound.succ ?_ | with_reducible refine PCall.call (hsaid) ?_ | with_reducible refine PCall.call (cb) ?_ | with_reducible refine PCall.call (cn) ?_))
      all_goals exact leaf (by rw [hfn]) (.bool _)
    | ok y m =>
      rw [next_ok hp (by rw [List.drop_zero]; exact ho), Nat.zero_add] at cn
      rw [ho] at hfn
      by_cases hm : m = w.length
      · have q8 : ((m : Int) == (w.length : Int)) = true := by rw [beq_iff_eq]; omega
        have hf : fineT ⟨k, t, n⟩ = (y.k == k && y.t == t && y.n == n) := by rw [hfn, hm]; simp
        rcases hq with hq | ⟨hq, hq2⟩
        all_goals iterate 80 (all_goals (try conv => whnf); all_goals (try first | with_reducible refine brY (by assumption) ?_ | with_reducible refine brN (by assumption) ?_ | (with_reducible refine brT ?_ ?_; · (simp only [Bool.and_eq_true, Bool.not_eq_true', decide_eq_true_eq, decide_eq_false_iff_not, beq_iff_eq, beq_eq_false_iff_ne, ne_eq] at *; omega)) | with_reducible refine br (fun _ => ?_) (fun _ => ?_) | with_reducible refine ⟨rfl, ?_⟩ | with_reducible refine ARound.succ ?_ | with_reducible refine PCall.call (hsaid) ?_ | with_reducible refine PCall.call (cb) ?_ | with_reducible refine PCall.call (cn) ?_))
        all_goals exact leaf (by rw [hf]; exact finB y k t n) (.bool _)
      · have q8 : ((m : Int) == (w.length : Int)) = false := by rw [beq_eq_false_iff_ne]; omega
        have hf : fineT ⟨k, t, n⟩ = false := by
          rw [hfn]
          have : (m == w.length) = false := beq_eq_false_iff_ne.2 hm
          dsimp only
          rw [this]; rfl
        rcases hq with hq | ⟨hq, hq2⟩
        all_goals iterate 80 (all_goals (try conv => whnf); all_goals (try first | with_reducible refine brY (by assumption) ?_ | with_reducible refine brN (by assumption) ?_ | (with_reducible refine brT ?_ ?_; · (simp only [Bool.and_eq_true, Bool.not_eq_true', decide_eq_true_eq, decide_eq_false_iff_not, beq_iff_eq, beq_eq_false_iff_ne, ne_eq] at *; omega)) | with_reducible refine br (fun _ => ?_) (fun _ => ?_) | with_reducible refine ⟨rfl, ?_⟩ | with_reducible refine ARound.succ ?_ | with_reducible refine PCall.call (hsaid) ?_ | with_reducible refine PCall.call (cb) ?_ | with_reducible refine PCall.call (cn) ?_))
        all_goals exact leaf (by rw [hf]) (.bool _)
end Go.Proofs.YtlhpbcbkkbjhoaaGreatDoor
namespace Go.Proofs.YtlhpbcbkkbjhoaaGreatDoor
open Ab Go.RowKit
set_option maxRecDepth 100000
set_option linter.unusedVariables false
set_option linter.unusedSimpArgs false
set_option maxHeartbeats 4000000
set_option pp.maxSteps 3000
attribute [local irreducible] appendK allLtK
theorem joinT_snoc (y : Tk) : ∀ {l : List Tk}, l ≠ [] → joinT (l ++ [y]) = joinT l ++ 32 :: saidL y
  | [], h => absurd rfl h
  | [x], _ => rfl
  | x :: z :: r, _ => by
    rw [List.cons_append, List.cons_append, joinT, joinT, ← List.cons_append, joinT_snoc y (l := z :: r) (by simp), List.append_assoc]
    rfl
theorem InI {l : List TI} {i : Nat} (h : i < l.length) : l.getD i inull ∈ l := by
  rw [show l.getD i inull = l[i] by simp [List.getD, h]]
  exact List.getElem_mem _
def joinI (l : List TI) (i : Nat) : List UInt8 := joinT ((l.take i).map (·.1))
theorem joinI_one {l : List TI} (h : 0 < l.length) : joinI l 1 = saidL (l.getD 0 inull).1 := by
  cases l with
  | nil => cases h
  | cons x r => rfl
theorem joinI_succ {l : List TI} {i : Nat} (h0 : 0 < i) (h : i < l.length) : joinI l (i + 1) = joinI l i ++ 32 :: saidL (l.getD i inull).1 := by
  unfold joinI
  have e2 : l.take (i + 1) = l.take i ++ [l.getD i inull] := by rw [List.take_add_one]; simp [List.getD, h]
  rw [e2, List.map_append]
  refine joinT_snoc _ ?_
  intro e
  have := congrArg List.length e
  rw [List.length_map, List.length_take, List.length_nil] at this
  omega
theorem app_s1 {m : Nat} {s : List UInt8} {l : List (Nat × AObj)} {k : SV → Heap → Prop} (h0 : 0 < s.length) (hl : s.length ≤ 1000000)
    (hk : k (.sl m 0 1 0 s.length none) ⟨m + 1, (m, .vec 0 1 (s.map byS) ⟨true, some 5⟩) :: l⟩) :
    appendK 5 1 1 ⟨m, l⟩ .nils (.str s) k := by
  refine append_new (elems_str s) (by simpa using h0) (allOnes_by s) (by simp; omega) (by simp; omega) ?_
  rw [List.length_map]
  exact hk
theorem append_strN {m g i n : Nat} {o s : List UInt8} {xs : List SV} {l : List (Nat × AObj)} {k : SV → Heap → Prop} (hn : n = o.length) (hx : xs = o.map byS) (ho : objL l i = some (.vec g 1 xs ⟨true, some 5⟩)) (h0 : 0 < s.length) (hlen : o.length + s.length ≤ 140737488355328)
    (hk : k (.sl i (g + 1) 1 0 (o.length + s.length) none) ⟨m, putO l i (.vec (g + 1) 1 (o.map byS ++ s.map byS) ⟨true, some 5⟩)⟩) :
    appendK 5 1 1 ⟨m, l⟩ (.sl i g 1 0 n none) (.str s) k := by
  subst hn hx
  exact append_str ho h0 hlen hk
theorem lt_byA {n : Nat} {s t : List UInt8} : ∀ v ∈ s.map byS ++ t.map byS, SV.lt 8 n v = true := by
  intro v hv
  rcases List.mem_append.1 hv with h | h
  · exact lt_by v h
  · exact lt_by v h
inductive JS (l : List TI) where
  | E
  | L (i g : Nat) (h1 : 0 < i) (h2 : i ≤ l.length)
@[reducible] def JS.env {l : List TI} : JS l → Env
  | .E => [(0, lstI l), (2, SV.str []), (3, SV.ref 0 0 0 0), (4, SV.int IntKind.i64 l.length), (10, SV.bool false), (5, SV.nils), (6, SV.int IntKind.i64 0)]
  | .L i g _ _ => [(0, lstI l), (2, SV.str []), (3, SV.ref 0 0 0 0), (4, SV.int IntKind.i64 l.length), (10, SV.bool false), (5, SV.sl 1 g 1 0 (joinI l i).length none), (6, SV.int IntKind.i64 i)]
@[reducible] def JS.hp {l : List TI} : JS l → Heap
  | .E => ⟨1, [(0, .vec 0 2 [fltS 0 0] ⟨false, some 30⟩)]⟩
  | .L i g _ _ => ⟨2, [(1, .vec g 1 ((joinI l i).map byS) ⟨true, some 5⟩), (0, .vec 0 2 [fltS 0 0] ⟨false, some 30⟩)]⟩
def JS.mu {l : List TI} : JS l → Nat
  | .E => l.length + 1
  | .L i _ _ _ => l.length - i
theorem rtoks_any {l : List TI} (hl : l.length ≤ 200) (hin : ∀ x ∈ l, x.1.n < 18446744073709551616 ∧ x.1.t.length ≤ 4000) : PCall Tryz.prog 8 [lstI l] (textI l) := by
  refine pcall_of (lits1 (.lst _ _ _)) (call8 rfl ?_)
  iterate 10 (all_goals (try conv => whnf); all_goals (try first | with_reducible refine brY (by assumption) ?_ | with_reducible refine brN (by assumption) ?_ | (with_reducible refine brT ?_ ?_; · (simp only [Bool.and_eq_true, Bool.not_eq_true', decide_eq_true_eq, decide_eq_false_iff_not, beq_iff_eq, beq_eq_false_iff_ne, ne_eq] at *; omega)) | with_reducible refine br (fun _ => ?_) (fun _ => ?_) | with_reducible refine ⟨rfl, ?_⟩ | with_reducible refine ARound.succ ?_))
  refine loop_ind (σ := {i : Nat // i ≤ l.length ∧ ∀ j, j < i → fineI (l.getD j inull) = true}) (fun y => [(0, lstI l), (2, SV.str []), (3, SV.ref 0 0 0 0), (4, SV.int IntKind.i64 y.1)])
    (fun y => ⟨1, [(0, .vec 0 2 [fltS 0 0] ⟨false, some 30⟩)]⟩) (fun y => l.length - y.1) ?_ ⟨0, by omega, fun j hj => by omega⟩
  rintro ⟨i, hi, hf⟩
  dsimp only
  have e7 : IntKind.i64.wrap ((i : Int) + 1) = ((i + 1 : Nat) : Int) := w64add (by omega)
  have et := Int.toNat_natCast i
  by_cases hil : i < l.length
  case pos =>
    have hd : decide ((i : Int) < (l.length : Int)) = true := decide_eq_true (by omega)
    have hb : (decide (0 ≤ (i : Int)) && decide ((i : Int) < (l.length : Int))) = true := by simp only [Bool.and_eq_true, decide_eq_true_eq]; omega
    obtain ⟨hn, ht⟩ := hin _ (InI hil)
    have cf := rmay_any hn ht
    rw [← et] at cf
    cases hfi : fineI (l.getD i inull) with
    | false =>
      rw [← et] at hfi
      rw [hfi] at cf
      rw [et] at hfi
      have hbad := badI_at l 0 i hil hf hfi
      rw [Nat.zero_add] at hbad
      iterate 40 (all_goals (try conv => whnf); all_goals (try first | with_reducible refine brY (by assumption) ?_ | with_reducible refine brN (by assumption) ?_ | (with_reducible refine brT ?_ ?_; · (simp only [Bool.and_eq_true, Bool.not_eq_true', decide_eq_true_eq, decide_eq_false_iff_not, beq_iff_eq, beq_eq_false_iff_ne, ne_eq] at *; omega)) | with_reducible refine br (fun _ => ?_) (fun _ => ?_) | with_reducible refine ⟨rfl, ?_⟩ | with_reducible refine ARound.succ ?_ | with_reducible refine PCall.call (cf) ?_))
      exact leaf (by unfold textI; rw [hbad]) (textI_lit l)
    | true =>
      rw [← et] at hfi
      rw [hfi] at cf
      rw [et] at hfi
      iterate 60 (all_goals (try conv => whnf); all_goals (try first | with_reducible refine brY (by assumption) ?_ | with_reducible refine brN (by assumption) ?_ | (with_reducible refine brT ?_ ?_; · (simp only [Bool.and_eq_true, Bool.not_eq_true', decide_eq_true_eq, decide_eq_false_iff_not, beq_iff_eq, beq_eq_false_iff_ne, ne_eq] at *; omega)) | with_reducible refine br (fun _ => ?_) (fun _ => ?_) | with_reducible refine ⟨rfl, ?_⟩ | with_reducible refine ARound.succ ?_ | with_reducible refine PCall.call (cf) ?_ | (refine allLtK_of (lt_one rfl) ?_)))
      refine ⟨⟨i + 1, hil, fun j hj => ?_⟩, by dsimp only; omega, by rw [e7], rfl⟩
      rcases (by omega : j < i ∨ j = i) with h | rfl
      · exact hf j h
      · exact hfi
  have hd : decide ((i : Int) < (l.length : Int)) = false := decide_eq_false (by omega)
  obtain rfl : i = l.length := by omega
  have hnone := badI_all l 0 hf
  have hall := badI_none hnone
  have ht : textI l = .tup [.str (joinT (l.map (·.1))), fltS 0 0] := by unfold textI; rw [hnone]
  rw [ht]
  iterate 10 (all_goals (try conv => whnf); all_goals (try first | with_reducible refine brY (by assumption) ?_ | with_reducible refine brN (by assumption) ?_ | (with_reducible refine brT ?_ ?_; · (simp only [Bool.and_eq_true, Bool.not_eq_true', decide_eq_true_eq, decide_eq_false_iff_not, beq_iff_eq, beq_eq_false_iff_ne, ne_eq] at *; omega)) | with_reducible refine br (fun _ => ?_) (fun _ => ?_) | with_reducible refine ⟨rfl, ?_⟩ | with_reducible refine ARound.succ ?_))
  have hlen : ∀ i, (joinI l i).length ≤ 20000000 := fun i => by
    have h1 := joinT_len (k := 65536) (l := (l.take i).map (·.1)) fun x hx => by
      obtain ⟨y, hy, rfl⟩ := List.mem_map.1 hx
      exact (fine_len (fineI_tk (hall y (List.mem_of_mem_take hy)))).1
    rw [List.length_map, List.length_take] at h1
    have h2 : min i l.length * (65536 + 1) ≤ 200 * (65536 + 1) := Nat.mul_le_mul_right _ (by omega)
    unfold joinI
    omega
  have hsl : ∀ i, i < l.length → 0 < (saidL (l.getD i inull).1).length ∧ (saidL (l.getD i inull).1).length ≤ 256 := fun i h => by
    have := fine_short (fineI_tk (hf i h))
    exact ⟨this.1, this.2.1⟩
  refine loop_any (σ := JS l) JS.env JS.hp JS.mu (fun _ => 2) (fun x => match x with | .E => (by show 1 ≤ 2; decide) | .L .. => Nat.le_refl 2) ?_ .E
  rintro (_ | ⟨i, g, h1, h2⟩)
  · dsimp only [JS.env, JS.hp]
    by_cases h0 : l = []
    · subst h0
      iterate 30 (all_goals (try conv => whnf); all_goals (try first | with_reducible refine brY (by assumption) ?_ | with_reducible refine brN (by assumption) ?_ | (with_reducible refine brT ?_ ?_; · (simp only [Bool.and_eq_true, Bool.not_eq_true', decide_eq_true_eq, decide_eq_false_iff_not, beq_iff_eq, beq_eq_false_iff_ne, ne_eq] at *; omega)) | with_reducible refine br (fun _ => ?_) (fun _ => ?_) | with_reducible refine ⟨rfl, ?_⟩ | with_reducible refine ARound.succ ?_))
      exact leaf rfl (lit2 (.str _) (.agg (by simp only [List.mem_cons, List.not_mem_nil, or_false]; rintro _ (rfl | rfl) <;> constructor)))
    have hpos : 0 < l.length := by cases l with | nil => exact absurd rfl h0 | cons c r => simp
    have hd : decide ((0 : Int) < (l.length : Int)) = true := decide_eq_true (by omega)
    have hb : (decide ((0 : Int) ≤ 0) && decide ((0 : Int) < (l.length : Int))) = true := by simp only [Bool.and_eq_true, decide_eq_true_eq]; omega
    have e1 : IntKind.i64.wrap (0 + 1) = ((1 : Nat) : Int) := by decide
    obtain ⟨hn, ht'⟩ := hin _ (InI hpos)
    have cs : PCall Tryz.prog 20 [tokI (l.getD (Int.toNat 0) inull)] (.str (saidL (l.getD 0 inull).1)) := rsaid_any ht' hn
    obtain ⟨s1, s2⟩ := hsl 0 hpos
    iterate 40 (all_goals (try conv => whnf); all_goals (try first | with_reducible refine brY (by assumption) ?_ | with_reducible refine brN (by assumption) ?_ | (with_reducible refine brT ?_ ?_; · (simp only [Bool.and_eq_true, Bool.not_eq_true', decide_eq_true_eq, decide_eq_false_iff_not, beq_iff_eq, beq_eq_false_iff_ne, ne_eq] at *; omega)) | with_reducible refine br (fun _ => ?_) (fun _ => ?_) | with_reducible refine ⟨rfl, ?_⟩ | with_reducible refine ARound.succ ?_ | with_reducible refine PCall.call (cs) ?_ | (refine app_s1 s1 (by omega) ?_) | (refine allLtK_of lt_by ?_) | (refine allLtK_of (lt_one rfl) ?_)))
    exact ⟨.L 1 0 (by omega) hpos, (by show l.length - 1 < l.length + 1; omega), (by dsimp only [JS.env]; rw [e1, joinI_one hpos]), (by dsimp only [JS.hp]; rw [joinI_one hpos])⟩
  · dsimp only [JS.env, JS.hp]
    have qg : Nat.beq g g = true := nbeq_self g
    have e8 : IntKind.i64.wrap ((i : Int) + 1) = ((i + 1 : Nat) : Int) := w64add (by omega)
    have et2 := Int.toNat_natCast i
    have hl1 := hlen i
    by_cases hil : i < l.length
    · have hd : decide ((i : Int) < (l.length : Int)) = true := decide_eq_true (by omega)
      have hb : (decide (0 ≤ (i : Int)) && decide ((i : Int) < (l.length : Int))) = true := by simp only [Bool.and_eq_true, decide_eq_true_eq]; omega
      have h0i : decide ((0 : Int) < (i : Int)) = true := decide_eq_true (by omega)
      obtain ⟨hn, ht'⟩ := hin _ (InI hil)
      have cs : PCall Tryz.prog 20 [tokI (l.getD (i : Int).toNat inull)] (.str (saidL (l.getD i inull).1)) := rsaid_any ht' hn
      obtain ⟨s1, s2⟩ := hsl i hil
      have hj := joinI_succ h1 hil
      have el : (joinI l (i + 1)).length = (joinI l i ++ [32]).length + (saidL (l.getD i inull).1).length := by
        rw [hj]; simp only [List.length_append, List.length_cons, List.length_nil]; omega
      have em : (joinI l (i + 1)).map byS = (joinI l i ++ [32]).map byS ++ (saidL (l.getD i inull).1).map byS := by
        rw [hj, ← List.map_append]; simp
      iterate 60 (all_goals (try conv => whnf); all_goals (try first | with_reducible refine brY (by assumption) ?_ | with_reducible refine brN (by assumption) ?_ | (with_reducible refine brT ?_ ?_; · (simp only [Bool.and_eq_true, Bool.not_eq_true', decide_eq_true_eq, decide_eq_false_iff_not, beq_iff_eq, beq_eq_false_iff_ne, ne_eq] at *; omega)) | with_reducible refine br (fun _ => ?_) (fun _ => ?_) | with_reducible refine ⟨rfl, ?_⟩ | with_reducible refine ARound.succ ?_ | with_reducible refine PCall.call (cs) ?_ | (refine append_one (o := joinI l i) (i := 1) (c := byS 32) rfl (by omega) rfl (by omega) ?_) | (refine append_strN (o := joinI l i ++ [32]) (i := 1) (by simp) (by rw [List.map_append]; rfl) rfl s1 (by rw [List.length_append, List.length_singleton]; omega) ?_) | (refine allLtK_of lt_byA ?_) | (refine allLtK_of (lt_one rfl) ?_)))
      exact ⟨.L (i + 1) (g + 1 + 1) (by omega) hil, (by show l.length - (i + 1) < l.length - i; omega), (by dsimp only [JS.env]; rw [e8, el]), (by dsimp only [JS.hp]; rw [em])⟩
    · have hd : decide ((i : Int) < (l.length : Int)) = false := decide_eq_false (by omega)
      have ej : joinI l i = joinT (l.map (·.1)) := by unfold joinI; rw [List.take_of_length_le (by omega)]
      rw [ej]
      rw [ej] at hl1
      iterate 9 (all_goals (try conv => whnf); all_goals (try first | with_reducible refine brY (by assumption) ?_ | with_reducible refine brN (by assumption) ?_ | (with_reducible refine brT ?_ ?_; · (simp only [Bool.and_eq_true, Bool.not_eq_true', decide_eq_true_eq, decide_eq_false_iff_not, beq_iff_eq, beq_eq_false_iff_ne, ne_eq] at *; omega)) | with_reducible refine br (fun _ => ?_) (fun _ => ?_) | with_reducible refine ⟨rfl, ?_⟩ | with_reducible refine ARound.succ ?_ | (refine dropN_run (Nat.zero_le _) ?_) | (refine takeN_all (by simp) ?_) | (refine bytesK_run2 (s := joinT (l.map (·.1))) (by rw [List.drop_zero]) ?_)))
      exact leaf rfl (lit2 (.str _) (.agg (by simp only [List.mem_cons, List.not_mem_nil, or_false]; rintro _ (rfl | rfl) <;> constructor)))
end Go.Proofs.YtlhpbcbkkbjhoaaGreatDoor
namespace Go.Proofs.YtlhpbcbkkbjhoaaGreatDoor
open Ab Go.RowKit
set_option maxRecDepth 100000
set_option linter.unusedVariables false
set_option linter.unusedSimpArgs false
set_option maxHeartbeats 8000000
set_option pp.maxSteps 3000
def wordsL : List (List UInt8) := [[97, 110, 100], [97, 115], [97, 115, 99], [98, 101, 103, 105, 110], [98, 111, 111, 108], [98, 121], [99, 111, 109, 109, 105, 116], [99, 111, 117, 110, 116], [99, 114, 101, 97, 116, 101], [100, 101, 108, 101, 116, 101], [100, 101, 115, 99], [102, 97, 108, 115, 101], [102, 114, 111, 109], [103, 114, 111, 117, 112], [105, 110, 100, 101, 120], [105, 110, 115, 101, 114, 116], [105, 110, 116], [105, 110, 116, 111], [105, 115], [106, 111, 105, 110], [107, 101, 121], [108, 105, 109, 105, 116], [109, 97, 120], [109, 105, 110], [110, 111, 116], [110, 117, 108, 108], [111, 110], [111, 114], [111, 114, 100, 101, 114], [112, 114, 105, 109, 97, 114, 121], [114, 111, 108, 108, 98, 97, 99, 107], [115, 97, 118, 101, 112, 111, 105, 110, 116], [115, 101, 108, 101, 99, 116], [115, 101, 116], [115, 117, 109], [116, 97, 98, 108, 101], [116, 101, 120, 116], [116, 111], [116, 114, 117, 101], [117, 110, 105, 113, 117, 101], [117, 112, 100, 97, 116, 101], [118, 97, 108, 117, 101, 115], [119, 104, 101, 114, 101]]
def tabsR : List (Nat × Tab) := [(22, t22), (48, t48)]
theorem tabsROk : TabsOk Tryz.prog tabsR := .cons tab22 (.cons tab48 (.nil))
def fuelR : Nat := 400
def wordE : List SV := wordsL.map SV.str
def resR : AEnd → Heap → Prop := fun r h' => ∃ v', r = .ret v' ∧ Hard h' v' (lstS wordsL)
theorem resRun : (lvl Tryz.prog tabsR fuelR).1.call 22 [] ⟨0, []⟩ resR = resR (.ret (.sl 0 0 1 0 43 (some 43))) ⟨1, [(0, .vec 0 1 wordE ⟨false, some 9⟩)]⟩ := by kernel_rfl
theorem lvlCall {n : Nat} {f : FuncId} {R : AEnd → Heap → Prop} (hp : (lvl Tryz.prog tabsR n).1.call f [] ⟨0, []⟩ R) : ACall Tryz.prog f [] ⟨0, []⟩ R := (lvl_sound mixed tabsROk n).1.call _ _ _ _ hp
theorem resEnd : resR (.ret (.sl 0 0 1 0 43 (some 43))) ⟨1, [(0, .vec 0 1 wordE ⟨false, some 9⟩)]⟩ := ⟨_, rfl, hard_ws (s := wordsL) (g := 0) (sk := ⟨false, some 9⟩) rfl rfl⟩
theorem reserved_any : PCall Tryz.prog 22 [] (lstS wordsL) := pcall_of (fun _ h => by simp at h) (lvlCall (resRun.symm ▸ resEnd))
theorem words_any : PCall Tryz.prog 23 [] (lstS wordsL) := by
  refine pcall_of (fun _ h => by simp at h) (call23 rfl ?_)
  iterate 4 (all_goals (try conv => whnf); all_goals (try first | with_reducible refine brY (by assumption) ?_ | with_reducible refine brN (by assumption) ?_ | (with_reducible refine brT ?_ ?_; · (simp only [Bool.and_eq_true, Bool.not_eq_true', decide_eq_true_eq, decide_eq_false_iff_not, beq_iff_eq, beq_eq_false_iff_ne, ne_eq] at *; omega)) | with_reducible refine br (fun _ => ?_) (fun _ => ?_) | with_reducible refine ⟨rfl, ?_⟩ | with_reducible refine ARound.succ ?_))
  exact ⟨_, rfl, hard_ws (s := wordsL) rfl rfl⟩
def idxS : List (List UInt8) → List UInt8 → Nat → Int
  | [], _, _ => -1
  | x :: r, w, k => if w == x then k else idxS r w (k + 1)
def isR (l : List (List UInt8)) (w : List UInt8) : Bool := l.any fun x => w == x
theorem idx_is : ∀ (l : List (List UInt8)) (w : List UInt8) (k : Nat), decide (0 ≤ idxS l w k) = isR l w
  | [], _, _ => rfl
  | x :: r, w, k => by
    have ih := idx_is r w (k + 1)
    unfold isR at ih ⊢
    rw [idxS, List.any_cons]
    cases h : (w == x) with
    | true => rw [if_pos rfl, Bool.true_or]; exact decide_eq_true (by omega)
    | false => rw [if_neg (by decide), Bool.false_or]; exact ih
theorem drop_consS {l : List (List UInt8)} {i : Nat} (h : i < l.length) : l.drop i = l.getD i [] :: l.drop (i + 1) := by
  rw [List.drop_eq_getElem_cons h]
  simp [List.getD, h]
theorem index_any2 {l : List (List UInt8)} {w : List UInt8} (hl : l.length ≤ 100000) : PCall Tryz.prog 47 [lstS l, .str w] (.int .i64 (idxS l w 0)) := by
  refine pcall_of (lits2 (.lst _ _ _) (.str _)) (call47 rfl ?_)
  iterate 6 (all_goals (try conv => whnf); all_goals (try first | with_reducible refine brY (by assumption) ?_ | with_reducible refine brN (by assumption) ?_ | (with_reducible refine brT ?_ ?_; · (simp only [Bool.and_eq_true, Bool.not_eq_true', decide_eq_true_eq, decide_eq_false_iff_not, beq_iff_eq, beq_eq_false_iff_ne, ne_eq] at *; omega)) | with_reducible refine br (fun _ => ?_) (fun _ => ?_) | with_reducible refine ⟨rfl, ?_⟩ | with_reducible refine ARound.succ ?_))
  refine loop_ind (σ := {i : Nat // i ≤ l.length ∧ idxS l w 0 = idxS (l.drop i) w i}) (fun y => [(0, lstS l), (1, SV.str w), (4, SV.int IntKind.i64 0), (7, SV.int IntKind.i64 l.length), (8, SV.int IntKind.i64 y.1)])
    (fun _ => ⟨0, []⟩) (fun y => l.length - y.1) ?_ ⟨0, by omega, rfl⟩
  rintro ⟨i, hi, he⟩
  dsimp only
  have e7 : IntKind.i64.wrap ((i : Int) + 1) = ((i + 1 : Nat) : Int) := w64add (by omega)
  have et := Int.toNat_natCast i
  by_cases hil : i < l.length
  · have hd : decide ((i : Int) < (l.length : Int)) = true := decide_eq_true (by omega)
    have hb : (decide (0 ≤ (i : Int)) && decide ((i : Int) < (l.length : Int))) = true := by simp only [Bool.and_eq_true, decide_eq_true_eq]; omega
    rw [drop_consS hil, idxS, ← et] at he
    cases hq : (w == l.getD (i : Int).toNat []) with
    | true =>
      rw [hq, if_pos rfl] at he
      iterate 24 (all_goals (try conv => whnf); all_goals (try first | with_reducible refine brY (by assumption) ?_ | with_reducible refine brN (by assumption) ?_ | (with_reducible refine brT ?_ ?_; · (simp only [Bool.and_eq_true, Bool.not_eq_true', decide_eq_true_eq, decide_eq_false_iff_not, beq_iff_eq, beq_eq_false_iff_ne, ne_eq] at *; omega)) | with_reducible refine br (fun _ => ?_) (fun _ => ?_) | with_reducible refine ⟨rfl, ?_⟩ | with_reducible refine ARound.succ ?_))
      exact leaf (by rw [he, et]) (.int _ _)
    | false =>
      rw [hq, if_neg (by decide), et] at he
      iterate 24 (all_goals (try conv => whnf); all_goals (try first | with_reducible refine brY (by assumption) ?_ | with_reducible refine brN (by assumption) ?_ | (with_reducible refine brT ?_ ?_; · (simp only [Bool.and_eq_true, Bool.not_eq_true', decide_eq_true_eq, decide_eq_false_iff_not, beq_iff_eq, beq_eq_false_iff_ne, ne_eq] at *; omega)) | with_reducible refine br (fun _ => ?_) (fun _ => ?_) | with_reducible refine ⟨rfl, ?_⟩ | with_reducible refine ARound.succ ?_))
      exact ⟨⟨i + 1, hil, he⟩, by dsimp only; omega, by rw [e7], rfl⟩
  · have hd : decide ((i : Int) < (l.length : Int)) = false := decide_eq_false (by omega)
    iterate 12 (all_goals (try conv => whnf); all_goals (try first | with_reducible refine brY (by assumption) ?_ | with_reducible refine brN (by assumption) ?_ | (with_reducible refine brT ?_ ?_; · (simp only [Bool.and_eq_true, Bool.not_eq_true', decide_eq_true_eq, decide_eq_false_iff_not, beq_iff_eq, beq_eq_false_iff_ne, ne_eq] at *; omega)) | with_reducible refine br (fun _ => ?_) (fun _ => ?_) | with_reducible refine ⟨rfl, ?_⟩ | with_reducible refine ARound.succ ?_))
    exact leaf (by rw [he, List.drop_of_length_le (by omega)]; rfl) (.int _ _)
theorem reservedW_any (w : List UInt8) : PCall Tryz.prog 10 [.str w] (.bool (isR wordsL w)) := by
  have hi := index_any2 (l := wordsL) (w := w) (by decide)
  have hc : PCall Tryz.prog 21 [lstS wordsL, .str w] (.bool (isR wordsL w)) := by
    refine pcall_of (lits2 (.lst _ _ _) (.str _)) (call21 rfl ?_)
    iterate 8 (all_goals (try conv => whnf); all_goals (try first | with_reducible refine brY (by assumption) ?_ | with_reducible refine brN (by assumption) ?_ | (with_reducible refine brT ?_ ?_; · (simp only [Bool.and_eq_true, Bool.not_eq_true', decide_eq_true_eq, decide_eq_false_iff_not, beq_iff_eq, beq_eq_false_iff_ne, ne_eq] at *; omega)) | with_reducible refine br (fun _ => ?_) (fun _ => ?_) | with_reducible refine ⟨rfl, ?_⟩ | with_reducible refine ARound.succ ?_ | with_reducible refine PCall.call (hi) ?_))
    exact leaf (by rw [idx_is]) (.bool _)
  refine pcall_of (lits1 (.str _)) (call10 rfl ?_)
  iterate 8 (all_goals (try conv => whnf); all_goals (try first | with_reducible refine brY (by assumption) ?_ | with_reducible refine brN (by assumption) ?_ | (with_reducible refine brT ?_ ?_; · (simp only [Bool.and_eq_true, Bool.not_eq_true', decide_eq_true_eq, decide_eq_false_iff_not, beq_iff_eq, beq_eq_false_iff_ne, ne_eq] at *; omega)) | with_reducible refine br (fun _ => ?_) (fun _ => ?_) | with_reducible refine ⟨rfl, ?_⟩ | with_reducible refine ARound.succ ?_ | with_reducible refine PCall.call (reserved_any) ?_ | with_reducible refine PCall.call (hc) ?_))
  exact leaf rfl (.bool _)
theorem rReserved_any (w : List UInt8) : PCall Tryz.prog 11 [.str w] (.bool (isR wordsL w)) := by
  refine pcall_of (lits1 (.str _)) (call11 rfl ?_)
  have hl : wordsL.length ≤ 1000 := by decide
  iterate 6 (all_goals (try conv => whnf); all_goals (try first | with_reducible refine brY (by assumption) ?_ | with_reducible refine brN (by assumption) ?_ | (with_reducible refine brT ?_ ?_; · (simp only [Bool.and_eq_true, Bool.not_eq_true', decide_eq_true_eq, decide_eq_false_iff_not, beq_iff_eq, beq_eq_false_iff_ne, ne_eq] at *; omega)) | with_reducible refine br (fun _ => ?_) (fun _ => ?_) | with_reducible refine ⟨rfl, ?_⟩ | with_reducible refine ARound.succ ?_ | with_reducible refine PCall.call (words_any) ?_))
  generalize wordsL = l at hl ⊢
  refine loop_ind (σ := {i : Nat // i ≤ l.length ∧ isR l w = isR (l.drop i) w}) (fun y => [(0, SV.str w), (2, SV.bool false), (3, lstS l), (4, SV.int IntKind.i64 y.1)])
    (fun _ => ⟨0, []⟩) (fun y => l.length - y.1) ?_ ⟨0, by omega, rfl⟩
  rintro ⟨i, hi, he⟩
  dsimp only
  have e7 : IntKind.i64.wrap ((i : Int) + 1) = ((i + 1 : Nat) : Int) := w64add (by omega)
  have et := Int.toNat_natCast i
  by_cases hil : i < l.length
  · have hd : decide ((i : Int) < (l.length : Int)) = true := decide_eq_true (by omega)
    have hb : (decide (0 ≤ (i : Int)) && decide ((i : Int) < (l.length : Int))) = true := by simp only [Bool.and_eq_true, decide_eq_true_eq]; omega
    have he2 : isR l w = ((w == l.getD (i : Int).toNat []) || isR (l.drop (i + 1)) w) := by
      rw [he, drop_consS hil, et]; rfl
    have comm : (l.getD (i : Int).toNat [] == w) = (w == l.getD (i : Int).toNat []) := by
      rw [Bool.eq_iff_iff, beq_iff_eq, beq_iff_eq]; exact eq_comm
    cases hq : (w == l.getD (i : Int).toNat []) with
    | true =>
      rw [hq] at comm
      rw [hq, Bool.true_or] at he2
      iterate 24 (all_goals (try conv => whnf); all_goals (try first | with_reducible refine brY (by assumption) ?_ | with_reducible refine brN (by assumption) ?_ | (with_reducible refine brT ?_ ?_; · (simp only [Bool.and_eq_true, Bool.not_eq_true', decide_eq_true_eq, decide_eq_false_iff_not, beq_iff_eq, beq_eq_false_iff_ne, ne_eq] at *; omega)) | with_reducible refine br (fun _ => ?_) (fun _ => ?_) | with_reducible refine ⟨rfl, ?_⟩ | with_reducible refine ARound.succ ?_))
      exact leaf (by rw [he2]) (.bool _)
    | false =>
      rw [hq] at comm
      rw [hq, Bool.false_or] at he2
      iterate 24 (all_goals (try conv => whnf); all_goals (try first | with_reducible refine brY (by assumption) ?_ | with_reducible refine brN (by assumption) ?_ | (with_reducible refine brT ?_ ?_; · (simp only [Bool.and_eq_true, Bool.not_eq_true', decide_eq_true_eq, decide_eq_false_iff_not, beq_iff_eq, beq_eq_false_iff_ne, ne_eq] at *; omega)) | with_reducible refine br (fun _ => ?_) (fun _ => ?_) | with_reducible refine ⟨rfl, ?_⟩ | with_reducible refine ARound.succ ?_))
      exact ⟨⟨i + 1, hil, he2⟩, by dsimp only; omega, by rw [e7], rfl⟩
  · have hd : decide ((i : Int) < (l.length : Int)) = false := decide_eq_false (by omega)
    iterate 12 (all_goals (try conv => whnf); all_goals (try first | with_reducible refine brY (by assumption) ?_ | with_reducible refine brN (by assumption) ?_ | (with_reducible refine brT ?_ ?_; · (simp only [Bool.and_eq_true, Bool.not_eq_true', decide_eq_true_eq, decide_eq_false_iff_not, beq_iff_eq, beq_eq_false_iff_ne, ne_eq] at *; omega)) | with_reducible refine br (fun _ => ?_) (fun _ => ?_) | with_reducible refine ⟨rfl, ?_⟩ | with_reducible refine ARound.succ ?_))
    exact leaf (by rw [he, List.drop_of_length_le (by omega)]; rfl) (.bool _)
end Go.Proofs.YtlhpbcbkkbjhoaaGreatDoor
