/- The law EncRow as it is called. -/
import Derived.Test.YtcklfcagailoiaaDoorEr3
import Derived.Test.YtcklfcagailoiaaDoorEr
namespace Go.Proofs.YtcklfcagailoiaaDoor
open Ab Go.RowKit
set_option maxRecDepth 100000
set_option linter.unusedVariables false
set_option linter.unusedSimpArgs false
set_option pp.maxSteps 3000
theorem bytes1 : Tryd.prog.bytesOf 5 = 1 := by kernel_rfl
@[reducible] noncomputable def rdBytes : Rd Tryd.prog 23 (List Int) := Rd.slice Tryd.underlying23 (by kernel_rfl) rdU8 (by decide) (fun x => .int .u8 x) (fun _ => rfl) 0
@[reducible] noncomputable def rdU64s : Rd Tryd.prog 22 (List Int) := Rd.slice Tryd.underlying22 (by kernel_rfl) rdU64 (by decide) (fun x => .int .u64 x) (fun _ => rfl) 0
@[reducible] def lstI8 (b : List Int) : SV := .lst 1 b.length fun i => .int .u8 (b.getD i 0)
@[reducible] def lstI64 (b : List Int) : SV := .lst 1 b.length fun i => .int .u64 (b.getD i 0)
def toB (b : List Int) : List UInt8 := b.map fun n => UInt8.ofNat n.toNat
theorem lstI8_eq {b : List Int} (h : ∀ x ∈ b, 0 ≤ x ∧ x ≤ 255) : lstI8 b = lstB (toB b) := by
  unfold lstI8 lstB toB
  rw [List.length_map]
  congr 1
  funext i
  by_cases hi : i < b.length
  · have h1 := h b[i] (List.getElem_mem hi)
    have e1 : b.getD i 0 = b[i] := by simp [List.getD, hi]
    have e2 : (b.map fun n => UInt8.ofNat n.toNat).getD i 0 = UInt8.ofNat (b[i]).toNat := by simp [List.getD, hi]
    rw [e1, e2]
    show SV.int .u8 _ = SV.int .u8 _
    rw [ofNat_toNat (by omega)]
    congr 1
    omega
  · have e1 : b.getD i 0 = 0 := by simp [List.getD, hi]
    have e2 : (b.map fun n => UInt8.ofNat n.toNat).getD i 0 = 0 := by simp [List.getD, hi]
    rw [e1, e2]; rfl
theorem lstI64_eq {b : List Int} (h : ∀ x ∈ b, 0 ≤ x ∧ x ≤ 18446744073709551615) : lstI64 b = lstU (b.map Int.toNat) := by
  unfold lstI64 lstU
  rw [List.length_map]
  congr 1
  funext i
  by_cases hi : i < b.length
  · have h1 := h b[i] (List.getElem_mem hi)
    have e1 : b.getD i 0 = b[i] := by simp [List.getD, hi]
    have e2 : (b.map Int.toNat).getD i 0 = (b[i]).toNat := by simp [List.getD, hi]
    rw [e1, e2]
    congr 1
    omega
  · have e1 : b.getD i 0 = 0 := by simp [List.getD, hi]
    have e2 : (b.map Int.toNat).getD i 0 = 0 := by simp [List.getD, hi]
    rw [e1, e2]; rfl
theorem encRow_long {l : List Nat} {b : List UInt8} (h : ¬ l.length ≤ 200) : PCall Tryd.prog 3 [lstU l, lstB b] (.bool true) := by
  refine pcall_of (lits2 (.lst _ _ _) (.lst _ _ _)) (call3 rfl ?_)
  have hd : decide ((200 : Int) < (l.length : Int)) = true := decide_eq_true (by omega)
  iterate 8 (all_goals (try conv => whnf); all_goals (try first | with_reducible refine brY (by assumption) ?_ | with_reducible refine brN (by assumption) ?_ | (with_reducible refine brT ?_ ?_; · (simp only [Bool.and_eq_true, Bool.not_eq_true', decide_eq_true_eq, decide_eq_false_iff_not, beq_iff_eq, beq_eq_false_iff_ne, ne_eq] at *; omega)) | with_reducible refine br (fun _ => ?_) (fun _ => ?_) | with_reducible refine ⟨rfl, ?_⟩ | with_reducible refine ARound.succ ?_ | with_reducible refine PCall.call (lives_any) ?_))
  exact leaf rfl (.bool _)
theorem encRow_card {l b : List Int} (hl : ∀ x ∈ l, 0 ≤ x ∧ x ≤ 18446744073709551615) (hb : ∀ x ∈ b, 0 ≤ x ∧ x ≤ 255) (hlen : b.length * Tryd.prog.bytesOf 5 ≤ 140737488351232) :
    PCall Tryd.prog 3 [lstI64 l, lstI8 b] (.bool true) := by
  rw [bytes1] at hlen
  rw [lstI8_eq hb, lstI64_eq hl]
  by_cases h200 : (l.map Int.toNat).length ≤ 200
  · refine encRow_any (fun x hx => ?_) h200 (by unfold toB; rw [List.length_map]; omega)
    obtain ⟨y, hy, rfl⟩ := List.mem_map.1 hx
    have := hl y hy
    omega
  · exact encRow_long h200
end Go.Proofs.YtcklfcagailoiaaDoor
