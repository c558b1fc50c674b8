/- Numbers of a few bytes: contracts of writing and reading. -/
import Derived.Test.YtcklfcagailoiaaDoorEl
import Derived.Test.YtcklfcagailoiaaDoorEp3
import Derived.Test.YtcklfcagailoiaaDoorE4
import Derived.Test.YtcklfcagailoiaaDoorAbM
namespace Go.Proofs.YtcklfcagailoiaaDoor
open Ab Go.RowKit
set_option maxRecDepth 100000
set_option linter.unusedVariables false
set_option linter.unusedSimpArgs false
set_option pp.maxSteps 3000
theorem byte_lo {x : Nat} (h : x < 128) : SV.int .u8 (IntKind.u8.wrap (x : Int)) = byS (UInt8.ofNat x) := by
  rw [IntKind.wrap_u8]
  show SV.int .u8 _ = SV.int .u8 _
  rw [ofNat_toNat (by omega)]
  congr 1
  omega
theorem byte_hi {x : Nat} : SV.int .u8 (bitsI .or .u8 (IntKind.u8.wrap (x : Int)) 128) = byS (UInt8.ofNat (x % 128 + 128)) := by
  show SV.int .u8 (IntKind.u8.wrap ((BitVec.ofInt 8 (IntKind.u8.wrap (x : Int)) ||| BitVec.ofInt 8 128).toNat : Int)) = SV.int .u8 _
  rw [ofNat_toNat (by omega)]
  have e : (BitVec.ofInt 8 (IntKind.u8.wrap (x : Int)) ||| BitVec.ofInt 8 128).toNat = x % 128 + 128 := by
    have e1 : BitVec.ofInt 8 (IntKind.u8.wrap (x : Int)) = BitVec.ofNat 8 (x % 256) := by
      rw [IntKind.wrap_u8, show (x : Int) % 256 = ((x % 256 : Nat) : Int) by omega, BitVec.ofInt_natCast]
    rw [e1]
    have key : ∀ v : BitVec 8, (v ||| BitVec.ofInt 8 128).toNat = v.toNat % 128 + 128 := by decide
    rw [key]
    have e2 : (BitVec.ofNat 8 (x % 256)).toNat = x % 256 := by rw [BitVec.toNat_ofNat]; exact Nat.mod_eq_of_lt (by omega)
    rw [e2]
    omega
  rw [e, IntKind.wrap_u8]
  congr 1
  omega
attribute [local irreducible] appendK
/-- Writing: the state of its loop. -/
structure ApS (b : List UInt8) (x : Nat) where
  o : List UInt8
  y : Nat
  i : Nat
  m : Nat
  g : Nat
  him : i < m
  hpos : 0 < o.length
  hy : y < 18446744073709551616
  inv : o ++ encB y = b ++ encB x
theorem append_byte {ty : TypeId} {m g i : Nat} {o : List UInt8} {c : SV} {sk : Sk} {l : List (Nat × AObj)} {k : SV → Heap → Prop} {sk' : Sk} (him : i < m) (hc : allOne c.cells = true) (hlen : o.length + 1 ≤ 140737488355328)
    (hk : k (.sl i (g + 1) 1 0 ((o.map byS).length + 1) none) ⟨m + 1, (m, .vec 0 1 [c] sk) :: (i, .vec (g + 1) 1 (o.map byS ++ [c]) ⟨true, joinTy sk'.ty ty⟩) :: l⟩) :
    appendK ty 1 1 ⟨m + 1, (m, .vec 0 1 [c] sk) :: (i, .vec g 1 (o.map byS) sk') :: l⟩ (.sl i g 1 0 (o.map byS).length none) (.sl m 0 1 0 1 (some 1)) k := by
  refine append_mv (elems_all objL_hd rfl) (by simp) (by simp [allOnes, hc]) (by rw [objL_nx (by omega)]; exact objL_hd) rfl (by simp; omega) (by simp; omega) (setO_skip (nbeq (by omega)) ?_)
  exact hk
theorem append_byte0 {ty : TypeId} {m : Nat} {c : SV} {sk : Sk} {l : List (Nat × AObj)} {k : SV → Heap → Prop} (hc : allOne c.cells = true)
    (hk : k (.sl (m + 1) 0 1 0 1 none) ⟨m + 2, (m + 1, .vec 0 1 [c] ⟨true, some ty⟩) :: (m, .vec 0 1 [c] sk) :: l⟩) :
    appendK ty 1 1 ⟨m + 1, (m, .vec 0 1 [c] sk) :: l⟩ .nils (.sl m 0 1 0 1 (some 1)) k :=
  append_new (elems_all objL_hd rfl) (by simp) (by simp [allOnes, hc]) (by simp) (by simp) hk
theorem append_gen {A0 : SV} {b : List UInt8} {x : Nat} (hl : LitV A0) (hE : ∀ h, Elems h 1 A0 (b.map byS)) (hx : x < 18446744073709551616) (hb : b.length ≤ 140737488355318) :
    PCall Tryd.prog 14 [A0, .int .u64 x] (lstB (b ++ encB x)) := by
  refine pcall_of (lits2 hl (.int _ _)) (call14 rfl ?_)
  have hcap := encB_len10 hx
  have hcap2 : ∀ s : ApS b x, s.o.length + (encB s.y).length = b.length + (encB x).length := fun s => by
    have := congrArg List.length s.inv
    rwa [List.length_append, List.length_append] at this
  have last : ∀ (o : List UInt8) (y : Nat), y < 128 → o ++ encB y = b ++ encB x → o.map byS ++ [SV.int .u8 (IntKind.u8.wrap (y : Int))] = (b ++ encB x).map byS := fun o y hy hi => by
    rw [byte_lo hy, ← hi, encB_lt hy, List.map_append]; rfl
  let st : {s : Option (ApS b x) // s = none → b = []} → Env := fun s => [(0, A0), (1, SV.int .u64 ((match s.1 with | none => x | some s => s.y : Nat) : Int)), (4, .nils), (5, match s.1 with | none => .nils | some s => .sl s.i s.g 1 0 (s.o.map byS).length none)]
  let hp : {s : Option (ApS b x) // s = none → b = []} → Heap := fun s => match s.1 with | none => ⟨0, []⟩ | some s => ⟨s.m, [(s.i, .vec s.g 1 (s.o.map byS) ⟨true, some 5⟩)]⟩
  let mu : {s : Option (ApS b x) // s = none → b = []} → Nat := fun s => match s.1 with | none => x | some s => s.y
  by_cases hb0 : b = []
  case' pos =>
    iterate 1 (all_goals (try conv => whnf); all_goals (try first | with_reducible refine brY (by assumption) ?_ | with_reducible refine brN (by assumption) ?_ | (with_reducible refine brT ?_ ?_; · (simp only [Bool.and_eq_true, Bool.not_eq_true', decide_eq_true_eq, decide_eq_false_iff_not, beq_iff_eq, beq_eq_false_iff_ne, ne_eq] at *; omega)) | with_reducible refine br (fun _ => ?_) (fun _ => ?_) | with_reducible refine ⟨rfl, ?_⟩ | with_reducible refine ARound.succ ?_ | (refine append_none (by rw [hb0] at hE; exact hE _) ?_)))
    conv => whnf
    refine loop_full st hp mu ?_ ⟨none, fun _ => hb0⟩ (.refl _)
  case' neg =>
    have hpos : 0 < b.length := by cases b with | nil => exact absurd rfl hb0 | cons c r => simp
    iterate 1 (all_goals (try conv => whnf); all_goals (try first | with_reducible refine brY (by assumption) ?_ | with_reducible refine brN (by assumption) ?_ | (with_reducible refine brT ?_ ?_; · (simp only [Bool.and_eq_true, Bool.not_eq_true', decide_eq_true_eq, decide_eq_false_iff_not, beq_iff_eq, beq_eq_false_iff_ne, ne_eq] at *; omega)) | with_reducible refine br (fun _ => ?_) (fun _ => ?_) | with_reducible refine ⟨rfl, ?_⟩ | with_reducible refine ARound.succ ?_ | (refine append_new (hE _) (by simpa using hpos) (allOnes_by b) (by rw [List.length_map]; omega) (by rw [List.length_map]; omega) ?_)))
    conv => whnf
    refine loop_full st hp mu ?_ ⟨some ⟨b, x, 0, 1, 0, by omega, hpos, hx, rfl⟩, fun h => by cases h⟩ (.refl _)
  all_goals rintro ⟨_ | s, hs⟩
  all_goals dsimp only [st, hp, mu]
  all_goals first
    | (obtain ⟨o, y, i, m, g, him, hpos', hy, inv⟩ := s
       have hc2 := hcap2 ⟨o, y, i, m, g, him, hpos', hy, inv⟩
       have hey := encB_pos y
       dsimp only at hc2 ⊢
       by_cases hlt : y < 128
       · have hd : decide ((128 : Int) ≤ (y : Int)) = false := decide_eq_false (by omega)
         iterate 6 (all_goals (try conv => whnf); all_goals (try first | with_reducible refine brY (by assumption) ?_ | with_reducible refine brN (by assumption) ?_ | (with_reducible refine brT ?_ ?_; · (simp only [Bool.and_eq_true, Bool.not_eq_true', decide_eq_true_eq, decide_eq_false_iff_not, beq_iff_eq, beq_eq_false_iff_ne, ne_eq] at *; omega)) | with_reducible refine br (fun _ => ?_) (fun _ => ?_) | with_reducible refine ⟨rfl, ?_⟩ | with_reducible refine ARound.succ ?_ | (refine append_byte him rfl (by omega) ?_)))
         refine ⟨_, rfl, ?_⟩
         have e := last o y hlt inv
         refine hard_by (i := i) (g := g + 1) (sk := ⟨true, some 5⟩) ?_ ?_
         · show objL _ i = _
           rw [objL_nx (by omega), objL_hd, e]; rfl
         · have := congrArg List.length e
           simp at this ⊢
           omega
       · have hd : decide ((128 : Int) ≤ (y : Int)) = true := decide_eq_true (by omega)
         iterate 5 (all_goals (try conv => whnf); all_goals (try first | with_reducible refine brY (by assumption) ?_ | with_reducible refine brN (by assumption) ?_ | (with_reducible refine brT ?_ ?_; · (simp only [Bool.and_eq_true, Bool.not_eq_true', decide_eq_true_eq, decide_eq_false_iff_not, beq_iff_eq, beq_eq_false_iff_ne, ne_eq] at *; omega)) | with_reducible refine br (fun _ => ?_) (fun _ => ?_) | with_reducible refine ⟨rfl, ?_⟩ | with_reducible refine ARound.succ ?_ | (refine append_byte him rfl (by omega) ?_)))
         rw [fdiv7, byte_hi]
         refine ⟨⟨some ⟨o ++ [UInt8.ofNat (y % 128 + 128)], y / 128, i, m + 1, g + 1, by omega, by simp, by omega, by rw [List.append_assoc, List.singleton_append, ← encB_ge hlt, inv]⟩, fun h => by cases h⟩, by dsimp only; omega, ?_, ?_⟩
         · simp only [List.length_map, List.length_append, List.length_singleton]
         · simp only [List.map_append, List.map_cons, List.map_nil]
           exact hsub_skip (by omega))
    | (have hb0' := hs rfl
       subst hb0'
       by_cases hlt : x < 128
       · have hd : decide ((128 : Int) ≤ (x : Int)) = false := decide_eq_false (by omega)
         iterate 6 (all_goals (try conv => whnf); all_goals (try first | with_reducible refine brY (by assumption) ?_ | with_reducible refine brN (by assumption) ?_ | (with_reducible refine brT ?_ ?_; · (simp only [Bool.and_eq_true, Bool.not_eq_true', decide_eq_true_eq, decide_eq_false_iff_not, beq_iff_eq, beq_eq_false_iff_ne, ne_eq] at *; omega)) | with_reducible refine br (fun _ => ?_) (fun _ => ?_) | with_reducible refine ⟨rfl, ?_⟩ | with_reducible refine ARound.succ ?_ | (refine append_byte0 rfl ?_)))
         refine ⟨_, rfl, ?_⟩
         have e := last [] x hlt rfl
         refine hard_by (i := 1) (g := 0) (sk := ⟨true, some 5⟩) ?_ ?_
         · show objL _ 1 = _
           rw [objL_hd, ← e]; rfl
         · rw [List.nil_append, encB_lt hlt]; rfl
       · have hd : decide ((128 : Int) ≤ (x : Int)) = true := decide_eq_true (by omega)
         iterate 5 (all_goals (try conv => whnf); all_goals (try first | with_reducible refine brY (by assumption) ?_ | with_reducible refine brN (by assumption) ?_ | (with_reducible refine brT ?_ ?_; · (simp only [Bool.and_eq_true, Bool.not_eq_true', decide_eq_true_eq, decide_eq_false_iff_not, beq_iff_eq, beq_eq_false_iff_ne, ne_eq] at *; omega)) | with_reducible refine br (fun _ => ?_) (fun _ => ?_) | with_reducible refine ⟨rfl, ?_⟩ | with_reducible refine ARound.succ ?_ | (refine append_byte0 rfl ?_)))
         rw [fdiv7, byte_hi]
         refine ⟨⟨some ⟨[UInt8.ofNat (x % 128 + 128)], x / 128, 1, 2, 0, by omega, by simp, by omega, by rw [List.singleton_append, ← encB_ge hlt]; rfl⟩, fun h => by cases h⟩, by dsimp only; omega, ?_, ?_⟩
         · rfl
         · exact hsub_hd)
end Go.Proofs.YtcklfcagailoiaaDoor
