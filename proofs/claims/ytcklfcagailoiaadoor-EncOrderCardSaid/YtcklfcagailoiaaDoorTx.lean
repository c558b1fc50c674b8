/- enc.text: its contract. -/
import Derived.Test.YtcklfcagailoiaaDoorTu
import Derived.Test.YtcklfcagailoiaaDoorEp5
namespace Go.Proofs.YtcklfcagailoiaaDoor
open Ab Go.RowKit
set_option maxRecDepth 100000
set_option linter.unusedVariables false
set_option linter.unusedSimpArgs false
set_option pp.maxSteps 3000
theorem wb3 {b0 c : UInt8} {x : Int} {g : Nat} {o : List UInt8} {R : AEnd → Heap → Prop} (hx : SV.int .u8 x = byS c) (hlen : o.length + 1 ≤ 140737488355328) (hk : R (.ret .nili) ⟨3, [(2, bufO 5 (g + 1) (o ++ [c])), (1, (.vec 0 1 [byS b0] ⟨false, some 5⟩)), (0, bldO 85 0 2 (g + 1) (o ++ [c]).length)]⟩) :
    ACall Tryd.prog 60 [.ref 0 0 0 0, .int .u8 x] ⟨3, [(2, bufO 5 g (o)), (1, (.vec 0 1 [byS b0] ⟨false, some 5⟩)), (0, bldO 85 0 2 g (o).length)]⟩ R :=
  wb_app (bi := 0) (j := 2) hx rfl rfl (by omega) (by omega) (by omega) (ltH_cons (by omega) objLt_by (ltH_cons (by omega) (objLt_all rfl) (ltH_cons (by omega) (objLt_all rfl) ltH_nil))) hlen hk
theorem wb00 {x : Int} {b0 : UInt8} {R : AEnd → Heap → Prop} (hx : SV.int .u8 x = byS b0) (hk : R (.ret .nili) ⟨3, [(2, .vec 0 1 [byS b0] ⟨true, some 5⟩), (1, .vec 0 1 [byS b0] ⟨false, some 5⟩), (0, bldO 85 0 2 0 1)]⟩) :
    ACall Tryd.prog 60 [.ref 0 0 0 0, .int .u8 x] ⟨1, [(0, .vec 0 2 [.agg [.nilp, .nils]] ⟨false, some 85⟩)]⟩ R := by
  rw [hx]
  exact (lvl_sound mixed tabsB 10).1.call _ _ _ _ (Eq.mpr (show (lvl Tryd.prog [(60, t60), (89, t89)] 10).1.call 60 [.ref 0 0 0 0, byS b0] ⟨1, [(0, .vec 0 2 [.agg [.nilp, .nils]] ⟨false, some 85⟩)]⟩ R = R (.ret .nili) ⟨3, [(2, .vec 0 1 [byS b0] ⟨true, some 5⟩), (1, .vec 0 1 [byS b0] ⟨false, some 5⟩), (0, bldO 85 0 2 0 1)]⟩ by kernel_rfl) hk)
/-- Reading a Text: the state of its loop. -/
structure TxS (s : List UInt8) where
  i : Nat
  g : Nat
  o : List UInt8
  hi : i ≤ s.length
  h0 : 0 < o.length
  ho : o.length ≤ i
  he : txtB s = (txtB (s.drop i)).map (fun p => (o ++ p.1, i + p.2))
@[reducible] def tx3 (t : List UInt8) (n : Nat) (b : Bool) : SV := .tup [.str t, .int .i64 n, .bool b]
theorem tx3_lit {t : List UInt8} {n : Nat} {b : Bool} : LitV (tx3 t n b) := .tup (by simp; exact ⟨.str _, .int _ _, .bool _⟩)
theorem byS_of {c : UInt8} {x : Int} (h : x = c.toNat) : SV.int .u8 x = byS c := by rw [h]
theorem text_any {q : List UInt8} (hq : q.length ≤ 140737488351232) : PCall Tryd.prog 96 [.str q] (tx3 (txT q) (txN q) (txO q)) := by
  refine pcall_of (lits1 (.str _)) (call96 rfl ?_)
  have no : txtB q = none → tx3 [] 0 false = tx3 (txT q) (txN q) (txO q) := fun h => by unfold txT txN txO; rw [h]; rfl
  have yes : ∀ t n, txtB q = some (t, n) → tx3 t n true = tx3 (txT q) (txN q) (txO q) := fun t n h => by unfold txT txN txO; rw [h]; rfl
  have eb : ∀ c : UInt8, ((c.toNat : Int) != 0) = (decide (c ≠ 0)) := fun c => by
    by_cases h : c = 0
    · subst h; rfl
    · have : c.toNat ≠ 0 := fun e => h (UInt8.toNat_inj.1 e)
      rw [decide_eq_true h, bne_iff_ne]; omega
  iterate 4 (all_goals (try conv => whnf); all_goals (try first | with_reducible refine brY (by assumption) ?_ | with_reducible refine brN (by assumption) ?_ | (with_reducible refine brT ?_ ?_; · (simp only [Bool.and_eq_true, Bool.not_eq_true', decide_eq_true_eq, decide_eq_false_iff_not, beq_iff_eq, beq_eq_false_iff_ne, ne_eq] at *; omega)) | with_reducible refine br (fun _ => ?_) (fun _ => ?_) | with_reducible refine ⟨rfl, ?_⟩ | with_reducible refine ARound.succ ?_))
  refine loop_two (σ := TxS q) (fun s => [(0, SV.str q), (2, SV.str []), (3, SV.int IntKind.i64 0), (4, SV.bool false), (5, SV.ref 0 0 0 0), (6, SV.int IntKind.i64 s.i)])
    (fun s => ⟨3, [(2, bufO 5 s.g (s.o)), (1, (.vec 0 1 [byS (if q.getD 0 0 ≠ 0 then q.getD 0 0 else 0)] ⟨false, some 5⟩)), (0, bldO 85 0 2 s.g (s.o).length)]⟩) (fun s => q.length - s.i) (q.length + 1) 3 (by decide) ?_ ?_
  · have hqq := hq
    have e7 : IntKind.i64.wrap (0 + 1) = 1 := by decide
    have g7 : (IntKind.i64.wrap (0 + 1)).toNat = 0 + 1 := by rw [e7]; rfl
    have gi : Int.toNat 0 = 0 := rfl
    by_cases hl : ¬ 0 + 1 < q.length
    · have hd : decide (IntKind.i64.wrap (0 + 1) < (q.length : Int)) = false := decide_eq_false (by rw [e7]; omega)
      have hn : txtB q = none := by have := txt_end (s := q) (i := 0) hl; rwa [List.drop_zero] at this
      iterate 8 (all_goals (try conv => whnf); all_goals (try first | with_reducible refine brY (by assumption) ?_ | with_reducible refine brN (by assumption) ?_ | (with_reducible refine brT ?_ ?_; · (simp only [Bool.and_eq_true, Bool.not_eq_true', decide_eq_true_eq, decide_eq_false_iff_not, beq_iff_eq, beq_eq_false_iff_ne, ne_eq] at *; omega)) | with_reducible refine br (fun _ => ?_) (fun _ => ?_) | with_reducible refine ⟨rfl, ?_⟩ | with_reducible refine ARound.succ ?_))
      exact leaf (no hn) tx3_lit
    have hl : 0 + 1 < q.length := by omega
    have hd : decide (IntKind.i64.wrap (0 + 1) < (q.length : Int)) = true := decide_eq_true (by rw [e7]; omega)
    by_cases hc : q.getD 0 0 ≠ 0
    · have hc1 : (((q.getD (Int.toNat 0) 0).toNat : Int) != 0) = true := by rw [gi, eb]; exact decide_eq_true hc
      have hx : SV.int .u8 ((q.getD (Int.toNat 0) 0).toNat : Int) = byS (if q.getD 0 0 ≠ 0 then q.getD 0 0 else 0) := by rw [if_pos hc]; rfl
      iterate 16 (all_goals (try conv => whnf); all_goals (try first | with_reducible refine brY (by assumption) ?_ | with_reducible refine brN (by assumption) ?_ | (with_reducible refine brT ?_ ?_; · (simp only [Bool.and_eq_true, Bool.not_eq_true', decide_eq_true_eq, decide_eq_false_iff_not, beq_iff_eq, beq_eq_false_iff_ne, ne_eq] at *; omega)) | with_reducible refine br (fun _ => ?_) (fun _ => ?_) | with_reducible refine ⟨rfl, ?_⟩ | with_reducible refine ARound.succ ?_ | (refine wb00 (b0 := if q.getD 0 0 ≠ 0 then q.getD 0 0 else 0) hx ?_)))
      have h2 := txt_go (i := 0) hl hc
      rw [List.drop_zero] at h2
      refine ⟨⟨1, 0, [q.getD 0 0], by omega, by simp, by simp, h2⟩, by dsimp only; omega, by rw [e7]; rfl, ?_⟩
      dsimp only; rw [if_pos hc]; rfl
    have hc1 : (((q.getD (Int.toNat 0) 0).toNat : Int) != 0) = false := by rw [gi, eb]; exact decide_eq_false hc
    by_cases hd1 : q.getD (0 + 1) 0 = 1
    · have hd2 : (((q.getD (IntKind.i64.wrap (0 + 1)).toNat 0).toNat : Int) == 1) = true := by rw [g7, hd1]; rfl
      have h2 := txt_fin (i := 0) hl hc hd1
      rw [List.drop_zero] at h2
      iterate 16 (all_goals (try conv => whnf); all_goals (try first | with_reducible refine brY (by assumption) ?_ | with_reducible refine brN (by assumption) ?_ | (with_reducible refine brT ?_ ?_; · (simp only [Bool.and_eq_true, Bool.not_eq_true', decide_eq_true_eq, decide_eq_false_iff_not, beq_iff_eq, beq_eq_false_iff_ne, ne_eq] at *; omega)) | with_reducible refine br (fun _ => ?_) (fun _ => ?_) | with_reducible refine ⟨rfl, ?_⟩ | with_reducible refine ARound.succ ?_ | (refine bs_empty ?_)))
      exact leaf (yes _ _ h2) tx3_lit
    have nb : ∀ k : Nat, k < 256 → q.getD (0 + 1) 0 ≠ UInt8.ofNat k → (((q.getD (IntKind.i64.wrap (0 + 1)).toNat 0).toNat : Int) == (k : Int)) = false := fun k hk h => by
      rw [g7, beq_eq_false_iff_ne]
      intro e
      exact h (UInt8.toNat_inj.1 (by rw [ofNat_toNat hk]; omega))
    have hd2 : (((q.getD (IntKind.i64.wrap (0 + 1)).toNat 0).toNat : Int) == 1) = false := nb 1 (by omega) hd1
    by_cases hd3 : q.getD (0 + 1) 0 = 255
    · have hd4 : (((q.getD (IntKind.i64.wrap (0 + 1)).toNat 0).toNat : Int) == 255) = true := by rw [g7, hd3]; rfl
      have hx : SV.int .u8 0 = byS (if q.getD 0 0 ≠ 0 then q.getD 0 0 else 0) := by rw [if_neg hc]; rfl
      have e8 : IntKind.i64.wrap (IntKind.i64.wrap (0 + 1) + 1) = ((2 : Nat) : Int) := by decide
      iterate 20 (all_goals (try conv => whnf); all_goals (try first | with_reducible refine brY (by assumption) ?_ | with_reducible refine brN (by assumption) ?_ | (with_reducible refine brT ?_ ?_; · (simp only [Bool.and_eq_true, Bool.not_eq_true', decide_eq_true_eq, decide_eq_false_iff_not, beq_iff_eq, beq_eq_false_iff_ne, ne_eq] at *; omega)) | with_reducible refine br (fun _ => ?_) (fun _ => ?_) | with_reducible refine ⟨rfl, ?_⟩ | with_reducible refine ARound.succ ?_ | (refine wb00 (b0 := if q.getD 0 0 ≠ 0 then q.getD 0 0 else 0) hx ?_)))
      have h2 := txt_zero (i := 0) hl hc hd1 hd3
      rw [List.drop_zero] at h2
      refine ⟨⟨2, 0, [0], by omega, by simp, by simp, h2⟩, by dsimp only; omega, by rw [e8], ?_⟩
      dsimp only; rw [if_neg hc]; rfl
    have hd4 : (((q.getD (IntKind.i64.wrap (0 + 1)).toNat 0).toNat : Int) == 255) = false := nb 255 (by omega) hd3
    have hn : txtB q = none := by have := txt_bad (s := q) (i := 0) hl hc hd1 hd3; rwa [List.drop_zero] at this
    iterate 16 (all_goals (try conv => whnf); all_goals (try first | with_reducible refine brY (by assumption) ?_ | with_reducible refine brN (by assumption) ?_ | (with_reducible refine brT ?_ ?_; · (simp only [Bool.and_eq_true, Bool.not_eq_true', decide_eq_true_eq, decide_eq_false_iff_not, beq_iff_eq, beq_eq_false_iff_ne, ne_eq] at *; omega)) | with_reducible refine br (fun _ => ?_) (fun _ => ?_) | with_reducible refine ⟨rfl, ?_⟩ | with_reducible refine ARound.succ ?_))
    exact leaf (no hn) tx3_lit
  · rintro ⟨i, g, o, hi, h0, ho, he⟩
    dsimp only
    have hol : o.length + 1 ≤ 140737488355328 := by omega
    have e7 : IntKind.i64.wrap ((i : Int) + 1) = ((i + 1 : Nat) : Int) := w64add (by omega)
    have g7 : (IntKind.i64.wrap ((i : Int) + 1)).toNat = i + 1 := by rw [e7]; exact Int.toNat_natCast _
    have gi : (i : Int).toNat = i := Int.toNat_natCast _
    by_cases hl : ¬ i + 1 < q.length
    · have hd : decide (IntKind.i64.wrap ((i : Int) + 1) < (q.length : Int)) = false := decide_eq_false (by rw [e7]; omega)
      have hn : txtB q = none := by rw [he, txt_end hl]; rfl
      iterate 8 (all_goals (try conv => whnf); all_goals (try first | with_reducible refine brY (by assumption) ?_ | with_reducible refine brN (by assumption) ?_ | (with_reducible refine brT ?_ ?_; · (simp only [Bool.and_eq_true, Bool.not_eq_true', decide_eq_true_eq, decide_eq_false_iff_not, beq_iff_eq, beq_eq_false_iff_ne, ne_eq] at *; omega)) | with_reducible refine br (fun _ => ?_) (fun _ => ?_) | with_reducible refine ⟨rfl, ?_⟩ | with_reducible refine ARound.succ ?_))
      exact leaf (no hn) tx3_lit
    have hl : i + 1 < q.length := by omega
    have hd : decide (IntKind.i64.wrap ((i : Int) + 1) < (q.length : Int)) = true := decide_eq_true (by rw [e7]; omega)
    by_cases hc : q.getD i 0 ≠ 0
    · have hc1 : (((q.getD ((i : Int).toNat) 0).toNat : Int) != 0) = true := by rw [gi, eb]; exact decide_eq_true hc
      have hx : SV.int .u8 ((q.getD ((i : Int).toNat) 0).toNat : Int) = byS (q.getD i 0) := by rw [gi]
      iterate 16 (all_goals (try conv => whnf); all_goals (try first | with_reducible refine brY (by assumption) ?_ | with_reducible refine brN (by assumption) ?_ | (with_reducible refine brT ?_ ?_; · (simp only [Bool.and_eq_true, Bool.not_eq_true', decide_eq_true_eq, decide_eq_false_iff_not, beq_iff_eq, beq_eq_false_iff_ne, ne_eq] at *; omega)) | with_reducible refine br (fun _ => ?_) (fun _ => ?_) | with_reducible refine ⟨rfl, ?_⟩ | with_reducible refine ARound.succ ?_ | (refine wb3 hx hol ?_)))
      refine ⟨⟨i + 1, g + 1, o ++ [q.getD i 0], by omega, by simp, by simp; omega, txt_comb he (txt_go hl hc)⟩, by dsimp only; omega, by rw [e7], ?_⟩
      rfl
    have hc1 : (((q.getD ((i : Int).toNat) 0).toNat : Int) != 0) = false := by rw [gi, eb]; exact decide_eq_false hc
    by_cases hd1 : q.getD (i + 1) 0 = 1
    · have hd2 : (((q.getD (IntKind.i64.wrap ((i : Int) + 1)).toNat 0).toNat : Int) == 1) = true := by rw [g7, hd1]; rfl
      have e8 : IntKind.i64.wrap ((i : Int) + 2) = ((i + 2 : Nat) : Int) := by rw [w64 (by omega) (by omega)]; omega
      have h2 : txtB q = some (o, i + 2) := by rw [he, txt_fin hl hc hd1]; simp
      iterate 16 (all_goals (try conv => whnf); all_goals (try first | with_reducible refine brY (by assumption) ?_ | with_reducible refine brN (by assumption) ?_ | (with_reducible refine brT ?_ ?_; · (simp only [Bool.and_eq_true, Bool.not_eq_true', decide_eq_true_eq, decide_eq_false_iff_not, beq_iff_eq, beq_eq_false_iff_ne, ne_eq] at *; omega)) | with_reducible refine br (fun _ => ?_) (fun _ => ?_) | with_reducible refine ⟨rfl, ?_⟩ | with_reducible refine ARound.succ ?_ | (refine bs_str (bi := 0) (j := 2) (g := g) (o := o) rfl rfl h0 (by omega) (fun l' => ?_))))
      refine leaf ?_ tx3_lit
      rw [e8]; exact yes _ _ h2
    have nb : ∀ k : Nat, k < 256 → q.getD (i + 1) 0 ≠ UInt8.ofNat k → (((q.getD (IntKind.i64.wrap ((i : Int) + 1)).toNat 0).toNat : Int) == (k : Int)) = false := fun k hk h => by
      rw [g7, beq_eq_false_iff_ne]
      intro e
      exact h (UInt8.toNat_inj.1 (by rw [ofNat_toNat hk]; omega))
    have hd2 : (((q.getD (IntKind.i64.wrap ((i : Int) + 1)).toNat 0).toNat : Int) == 1) = false := nb 1 (by omega) hd1
    by_cases hd3 : q.getD (i + 1) 0 = 255
    · have hd4 : (((q.getD (IntKind.i64.wrap ((i : Int) + 1)).toNat 0).toNat : Int) == 255) = true := by rw [g7, hd3]; rfl
      have hx : SV.int .u8 0 = byS 0 := rfl
      have e8 : IntKind.i64.wrap (IntKind.i64.wrap ((i : Int) + 1) + 1) = ((i + 2 : Nat) : Int) := by rw [e7, w64 (by omega) (by omega)]; omega
      iterate 20 (all_goals (try conv => whnf); all_goals (try first | with_reducible refine brY (by assumption) ?_ | with_reducible refine brN (by assumption) ?_ | (with_reducible refine brT ?_ ?_; · (simp only [Bool.and_eq_true, Bool.not_eq_true', decide_eq_true_eq, decide_eq_false_iff_not, beq_iff_eq, beq_eq_false_iff_ne, ne_eq] at *; omega)) | with_reducible refine br (fun _ => ?_) (fun _ => ?_) | with_reducible refine ⟨rfl, ?_⟩ | with_reducible refine ARound.succ ?_ | (refine wb3 hx hol ?_)))
      refine ⟨⟨i + 2, g + 1, o ++ [0], by omega, by simp, by simp; omega, txt_comb he (txt_zero hl hc hd1 hd3)⟩, by dsimp only; omega, by rw [e8], ?_⟩
      rfl
    have hd4 : (((q.getD (IntKind.i64.wrap ((i : Int) + 1)).toNat 0).toNat : Int) == 255) = false := nb 255 (by omega) hd3
    have hn : txtB q = none := by rw [he, txt_bad hl hc hd1 hd3]; rfl
    iterate 16 (all_goals (try conv => whnf); all_goals (try first | with_reducible refine brY (by assumption) ?_ | with_reducible refine brN (by assumption) ?_ | (with_reducible refine brT ?_ ?_; · (simp only [Bool.and_eq_true, Bool.not_eq_true', decide_eq_true_eq, decide_eq_false_iff_not, beq_iff_eq, beq_eq_false_iff_ne, ne_eq] at *; omega)) | with_reducible refine br (fun _ => ?_) (fun _ => ?_) | with_reducible refine ⟨rfl, ?_⟩ | with_reducible refine ARound.succ ?_))
    exact leaf (no hn) tx3_lit
end Go.Proofs.YtcklfcagailoiaaDoor
