/- A text between apostrophes, as the lexer reads it: the contract. -/
import Derived.Test.YtboinbjiemmggaaDoorLy3b
import Derived.Test.YtboinbjiemmggaaDoorLx7
namespace Go.Proofs.YtboinbjiemmggaaDoor
open Ab Go.RowKit Go.Lib
set_option maxRecDepth 100000
set_option linter.unusedVariables false
set_option linter.unusedSimpArgs false
set_option maxHeartbeats 4000000
set_option pp.maxSteps 3000
attribute [local irreducible] appendK allLtK Utf8.decode
theorem lt_by {n : Nat} {s : List UInt8} : ∀ v ∈ s.map byS, SV.lt 8 n v = true := by
  intro v hv
  obtain ⟨b, _, rfl⟩ := List.mem_map.1 hv
  rfl
theorem lt_one {n : Nat} {u : SV} (h : SV.lt 8 n u = true) : ∀ v ∈ [u], SV.lt 8 n v = true := by
  intro v hv
  simp only [List.mem_singleton] at hv
  subst hv
  exact h
structure TxI (s : List UInt8) (pos : Nat) (buf : List UInt8) (bad dbl : Bool) : Prop where
  p1 : 1 < pos
  pl : pos ≤ s.length
  b0 : 0 < buf.length
  bl : buf.length ≤ pos
  go : dbl = false → ∃ f, (s.drop pos).length ≤ f ∧ textL s = textGo f (s.drop pos) pos bad buf
  go2 : dbl = true → pos < s.length ∧ s.getD pos 0 = 39 ∧ ∃ f, (s.drop (pos + 1)).length ≤ f ∧ textL s = textGo f (s.drop (pos + 1)) (pos + 1) bad buf
inductive TxS (s : List UInt8) where
  | A
  | B
  | C (fb : Bool) (pos g : Nat) (buf : List UInt8) (bad dbl : Bool) (h : TxI s pos buf bad dbl)
@[reducible] def bldE : AObj := .vec 0 2 [.agg [.nilp, .nils]] ⟨false, some 51⟩
@[reducible] def tok0 : AObj := .vec 0 4 [tokP tnull] ⟨false, some 32⟩
@[reducible] def TxS.env {s : List UInt8} : TxS s → Env
  | .A => [(0, SV.str s), (2, SV.ref 0 0 0 0), (3, SV.int IntKind.i64 0), (4, SV.int IntKind.i64 0), (5, SV.ref 1 0 0 0), (6, SV.bool false), (7, SV.bool false), (13, SV.ref 2 0 0 0)]
  | .B => [(0, SV.str s), (2, SV.ref 0 0 0 0), (3, SV.int IntKind.i64 0), (4, SV.int IntKind.i64 0), (5, SV.ref 1 0 0 0), (6, SV.bool false), (7, SV.bool false), (13, SV.ref 2 0 0 0)]
  | .C _ pos g buf bad dbl _ => [(0, SV.str s), (2, SV.ref 0 0 0 0), (3, SV.int IntKind.i64 0), (4, SV.int IntKind.i64 0), (5, SV.ref 1 0 0 0), (6, SV.bool bad), (7, SV.bool dbl), (13, SV.ref 2 0 0 0)]
@[reducible] def TxS.hp {s : List UInt8} : TxS s → Heap
  | .A => ⟨3, [(2, .iter s 0), (1, bldE), (0, tok0)]⟩
  | .B => ⟨3, [(2, .iter s 1), (1, bldE), (0, tok0)]⟩
  | .C false pos g buf bad dbl _ => ⟨4, [(3, bufO 5 g buf), (2, .iter s pos), (1, bldO 51 1 3 g buf.length), (0, tok0)]⟩
  | .C true pos g buf bad dbl _ => ⟨5, [(4, bufO 5 g buf), (3, .vec 0 1 [byS 39] ⟨false, some 5⟩), (2, .iter s pos), (1, bldO 51 1 4 g buf.length), (0, tok0)]⟩
def TxS.mu {s : List UInt8} : TxS s → Nat
  | .A => s.length + 2
  | .B => s.length + 1
  | .C _ pos _ _ _ _ _ => s.length - pos
def TxS.nn {s : List UInt8} : TxS s → Nat
  | .A => 3
  | .B => if s.getD 1 0 = 39 then 5 else 4
  | .C false .. => 4
  | .C true .. => 5
theorem take_pre {p l : List UInt8} (h : p.length ≤ l.length) : (l.take p.length == p) = p.isPrefixOf l := by
  rw [Bool.eq_iff_iff, beq_iff_eq, List.isPrefixOf_iff_prefix, List.prefix_iff_eq_take]
  exact ⟨fun h => h.symm, fun h => h.symm⟩
theorem hasPrefix_any {l p : List UInt8} (hp : p.length ≤ 1000000) : PCall Tryd.prog 18 [.str l, .str p] (.bool (p.isPrefixOf l)) := by
  have h1 : PCall Tryd.prog 28 [.str l, .str p] (.bool (p.isPrefixOf l)) := by
    refine pcall_of (lits2 (.str _) (.str _)) (call28 rfl ?_)
    by_cases h : p.length ≤ l.length
    · have hd : decide ((p.length : Int) ≤ (l.length : Int)) = true := decide_eq_true (by omega)
      iterate 12 (all_goals (try conv => whnf); all_goals (try first | with_reducible refine brY (by assumption) ?_ | with_reducible refine brN (by assumption) ?_ | (with_reducible refine brT ?_ ?_; · (simp only [Bool.and_eq_true, Bool.not_eq_true', decide_eq_true_eq, decide_eq_false_iff_not, beq_iff_eq, beq_eq_false_iff_ne, ne_eq] at *; omega)) | with_reducible refine br (fun _ => ?_) (fun _ => ?_) | with_reducible refine ⟨rfl, ?_⟩ | with_reducible refine ARound.succ ?_))
      refine leaf ?_ (.bool _)
      rw [Int.toNat_natCast, show Int.toNat 0 = 0 from rfl, List.drop_zero, Nat.sub_zero, take_pre h]
    · have hd : decide ((p.length : Int) ≤ (l.length : Int)) = false := decide_eq_false (by omega)
      iterate 12 (all_goals (try conv => whnf); all_goals (try first | with_reducible refine brY (by assumption) ?_ | with_reducible refine brN (by assumption) ?_ | (with_reducible refine brT ?_ ?_; · (simp only [Bool.and_eq_true, Bool.not_eq_true', decide_eq_true_eq, decide_eq_false_iff_not, beq_iff_eq, beq_eq_false_iff_ne, ne_eq] at *; omega)) | with_reducible refine br (fun _ => ?_) (fun _ => ?_) | with_reducible refine ⟨rfl, ?_⟩ | with_reducible refine ARound.succ ?_))
      refine leaf ?_ (.bool _)
      have : p.isPrefixOf l = false := by
        rw [Bool.eq_false_iff, ne_eq, List.isPrefixOf_iff_prefix]
        exact fun h' => h h'.length_le
      rw [this]
  refine pcall_of (lits2 (.str _) (.str _)) (call18 rfl ?_)
  iterate 4 (all_goals (try conv => whnf); all_goals (try first | with_reducible refine brY (by assumption) ?_ | with_reducible refine brN (by assumption) ?_ | (with_reducible refine brT ?_ ?_; · (simp only [Bool.and_eq_true, Bool.not_eq_true', decide_eq_true_eq, decide_eq_false_iff_not, beq_iff_eq, beq_eq_false_iff_ne, ne_eq] at *; omega)) | with_reducible refine br (fun _ => ?_) (fun _ => ?_) | with_reducible refine ⟨rfl, ?_⟩ | with_reducible refine ARound.succ ?_ | with_reducible refine PCall.call (h1) ?_))
  exact leaf rfl (.bool _)
theorem cut_from {s : List UInt8} {pos : Nat} : List.take (((s.length : Nat) : Int).toNat - ((pos : Nat) : Int).toNat) (List.drop ((pos : Nat) : Int).toNat s) = s.drop pos := by
  rw [Int.toNat_natCast, Int.toNat_natCast, List.take_of_length_le (by rw [List.length_drop]; omega)]
theorem cut_to {s : List UInt8} {pos w : Nat} (h : pos + w ≤ 1000000) : List.take ((IntKind.i64.wrap ((pos : Int) + (w : Int))).toNat - ((pos : Nat) : Int).toNat) (List.drop ((pos : Nat) : Int).toNat s) = (s.drop pos).take w := by
  rw [w64 (by omega) (by omega), Int.toNat_natCast, show ((pos : Int) + (w : Int)).toNat = pos + w by omega, Nat.add_sub_cancel_left]
theorem decode_from {s : List UInt8} {pos : Nat} (h : pos < s.length) : PCall Tryd.prog 22 [.str (List.take (((s.length : Nat) : Int).toNat - ((pos : Nat) : Int).toNat) (List.drop ((pos : Nat) : Int).toNat s))] (.tup [.int .i32 ((Utf8.decode ⟨s.toArray⟩ pos).1 : Nat), .int .i64 ((Utf8.decode ⟨s.toArray⟩ pos).2 : Nat)]) := by
  have e : Lib.decodeGo ⟨(s.drop pos).toArray⟩ = Utf8.decode ⟨s.toArray⟩ pos := by
    unfold Lib.decodeGo
    rw [if_neg (by simp only [ByteArray.size, List.size_toArray, List.length_drop]; omega), decode_pos, decode_pos, List.drop_zero]
  rw [cut_from, ← e]
  exact decode_any _
theorem prefix_from {s : List UInt8} {pos : Nat} : PCall Tryd.prog 18 [.str (List.take (((s.length : Nat) : Int).toNat - ((pos : Nat) : Int).toNat) (List.drop ((pos : Nat) : Int).toNat s)), .str [39, 39]] (.bool (([39, 39] : List UInt8).isPrefixOf (s.drop pos))) := by
  rw [cut_from]
  exact hasPrefix_any (by decide)
theorem ws_first {s t : List UInt8} {p : Nat} (h0 : 0 < t.length) (ht : t.length ≤ 1000000) {R : AEnd → Heap → Prop}
    (hk : R (.ret (.tup [.int .i64 t.length, .nili])) ⟨4, [(3, bufO 5 0 t), (2, .iter s p), (1, bldO 51 1 3 0 t.length), (0, tok0)]⟩) :
    ACall Tryd.prog 23 [.ref 1 0 0 0, .str t] ⟨3, [(2, .iter s p), (1, bldE), (0, tok0)]⟩ R := by
  refine call23 rfl ?_
  iterate 10 (all_goals (try conv => whnf); all_goals (try first | with_reducible refine brY (by assumption) ?_ | with_reducible refine brN (by assumption) ?_ | (with_reducible refine brT ?_ ?_; · (simp only [Bool.and_eq_true, Bool.not_eq_true', decide_eq_true_eq, decide_eq_false_iff_not, beq_iff_eq, beq_eq_false_iff_ne, ne_eq] at *; omega)) | with_reducible refine br (fun _ => ?_) (fun _ => ?_) | with_reducible refine ⟨rfl, ?_⟩ | with_reducible refine ARound.succ ?_ | (refine call35 rfl ?_) | (refine append_new (elems_str _) (by simpa using h0) (allOnes_by _) (by simp; omega) (by simp; omega) ?_)))
  rw [List.length_map]
  exact hk
theorem bs_str2 {m : Nat} {l : List (Nat × AObj)} {bi j g : Nat} {o : List UInt8} {R : AEnd → Heap → Prop} (hb : objL l bi = some (bldO 51 bi j g o.length)) (hj : objL l j = some (bufO 5 g o)) (h0 : 0 < o.length) (hlen : o.length ≤ 9223372036854775807)
    (hk : R (.ret (.str o)) ⟨m, putO l j (.fro g 5 (o.map byS))⟩) : ACall Tryd.prog 26 [.ref bi 0 0 0] ⟨m, l⟩ R := by
  refine call26 rfl ?_
  have q1 : Nat.blt 0 o.length = true := by rw [Nat.blt, Nat.ble_eq]; exact h0
  have q2 : (Nat.beq g g && (Nat.beq 0 0 && Nat.beq 0 0) && (Nat.beq 1 1 && tyIs (Sk.ty ⟨true, some 5⟩) 5) && (decide (0 < (o.length : Int)) && decide ((o.length : Int) ≤ 9223372036854775807))) = true := by
    rw [nbeq_self, decide_eq_true (show 0 < (o.length : Int) by omega), decide_eq_true (show (o.length : Int) ≤ 9223372036854775807 by omega)]; rfl
  have q3 : Nat.beq g g = true := nbeq_self g
  have q4 : Nat.beq j j = true := nbeq_self j
  iterate 40 (all_goals (try conv => whnf); all_goals (try first | with_reducible refine brY (by assumption) ?_ | with_reducible refine brN (by assumption) ?_ | (with_reducible refine brT ?_ ?_; · (simp only [Bool.and_eq_true, Bool.not_eq_true', decide_eq_true_eq, decide_eq_false_iff_not, beq_iff_eq, beq_eq_false_iff_ne, ne_eq] at *; omega)) | with_reducible refine br (fun _ => ?_) (fun _ => ?_) | with_reducible refine ⟨rfl, ?_⟩ | with_reducible refine ARound.succ ?_ | (with_reducible refine lookO_run hb ?_) | (with_reducible refine lookO_run hj ?_) | (refine takeN_all (by simp) ?_) | (refine bytesK_run ?_) | (with_reducible refine setO_run ?_)))
  exact hk
theorem ltHF {s : List UInt8} {p g n : Nat} {buf : List UInt8} : ltH [(3, bufO 5 g buf), (2, .iter s p), (1, bldO 51 1 3 g n), (0, tok0)] 4 := by
  intro i ob h
  unfold objL at h
  split at h
  · cases h; rename_i h; subst h; exact ⟨by omega, objLt_by⟩
  unfold objL at h
  split at h
  · cases h; rename_i h; subst h; exact ⟨by omega, trivial⟩
  unfold objL at h
  split at h
  · cases h; rename_i h; subst h; exact ⟨by omega, fun v hv => by simp only [List.mem_singleton] at hv; subst hv; rfl⟩
  unfold objL at h
  split at h
  · cases h; rename_i h; subst h; exact ⟨by omega, fun v hv => by simp only [List.mem_singleton] at hv; subst hv; rfl⟩
  · cases h
theorem ltHT {s : List UInt8} {p g n : Nat} {buf : List UInt8} : ltH [(4, bufO 5 g buf), (3, .vec 0 1 [byS 39] ⟨false, some 5⟩), (2, .iter s p), (1, bldO 51 1 4 g n), (0, tok0)] 5 := by
  intro i ob h
  unfold objL at h
  split at h
  · cases h; rename_i h; subst h; exact ⟨by omega, objLt_by⟩
  unfold objL at h
  split at h
  · cases h; rename_i h; subst h; exact ⟨by omega, fun v hv => by simp only [List.mem_singleton] at hv; subst hv; rfl⟩
  unfold objL at h
  split at h
  · cases h; rename_i h; subst h; exact ⟨by omega, trivial⟩
  unfold objL at h
  split at h
  · cases h; rename_i h; subst h; exact ⟨by omega, fun v hv => by simp only [List.mem_singleton] at hv; subst hv; rfl⟩
  unfold objL at h
  split at h
  · cases h; rename_i h; subst h; exact ⟨by omega, fun v hv => by simp only [List.mem_singleton] at hv; subst hv; rfl⟩
  · cases h
theorem text_any {s : List UInt8} (hs : s.length ≤ 100000) (hq : s.getD 0 0 = 39) (hne : s ≠ []) : PCall Tryd.prog 16 [.str s] (oneS (textL s)) := by
  refine pcall_of (lits1 (.str _)) (call16 rfl ?_)
  have hpos : 0 < s.length := by cases s with | nil => exact absurd rfl hne | cons c r => simp
  have start : textL s = textGo s.length (s.drop 1) 1 false [] := rfl
  iterate 8 (all_goals (try conv => whnf); all_goals (try first | with_reducible refine brY (by assumption) ?_ | with_reducible refine brN (by assumption) ?_ | (with_reducible refine brT ?_ ?_; · (simp only [Bool.and_eq_true, Bool.not_eq_true', decide_eq_true_eq, decide_eq_false_iff_not, beq_iff_eq, beq_eq_false_iff_ne, ne_eq] at *; omega)) | with_reducible refine br (fun _ => ?_) (fun _ => ?_) | with_reducible refine ⟨rfl, ?_⟩ | with_reducible refine ARound.succ ?_))
  refine loop_any (σ := TxS s) TxS.env TxS.hp TxS.mu TxS.nn (fun x => match x with | .A => Nat.le_refl 3 | .B => (by show 3 ≤ if s.getD 1 0 = 39 then 5 else 4; split <;> decide) | .C false .. => Nat.le_refl 4 | .C true .. => Nat.le_refl 5) ?_ .A
  rintro (_ | _ | ⟨fb, pos, g, buf, bad, dbl, hI⟩)
  · have hd0 : Utf8.decode ⟨s.toArray⟩ 0 = (39, 1) := by
      rw [decode_pos, List.drop_zero]
      cases s with
      | nil => exact absurd rfl hne
      | cons c r => obtain rfl : c = 39 := hq; exact decodeL_q r
    have hb : Nat.blt 0 s.length = true := by rw [Nat.blt, Nat.ble_eq]; exact hpos
    iterate 16 (all_goals (try conv => whnf); all_goals (try first | with_reducible refine brY (by assumption) ?_ | with_reducible refine brN (by assumption) ?_ | (with_reducible refine brT ?_ ?_; · (simp only [Bool.and_eq_true, Bool.not_eq_true', decide_eq_true_eq, decide_eq_false_iff_not, beq_iff_eq, beq_eq_false_iff_ne, ne_eq] at *; omega)) | with_reducible refine br (fun _ => ?_) (fun _ => ?_) | with_reducible refine ⟨rfl, ?_⟩ | with_reducible refine ARound.succ ?_))
    exact ⟨.B, by simp [TxS.mu], rfl, by rw [hd0]; rfl⟩
  · by_cases hl : 1 < s.length
    · have hd1 := decode_pos s 1
      have hb : Nat.blt 1 s.length = true := by rw [Nat.blt, Nat.ble_eq]; exact hl
      have hc1 := drop_cons hl
      have cd := decode_from hl
      have cp := prefix_from (s := s) (pos := 1)
      have hb0 : (((1 : Nat) : Int) == 0) = false := rfl
      have hdl : (s.drop 1).length = s.length - 1 := List.length_drop
      by_cases hc : s.getD 1 0 = 39
      · rw [show TxS.nn (TxS.B : TxS s) = 5 from if_pos hc]
        have hD : Utf8.decode ⟨s.toArray⟩ 1 = (39, 1) := by rw [hd1, hc1, hc, decodeL_q]
        have hR : (((Utf8.decode ⟨s.toArray⟩ 1).1 : Int) != 39) = false := by rw [hD]; rfl
        iterate 40 (all_goals (try conv => whnf); all_goals (try first | with_reducible refine brY (by assumption) ?_ | with_reducible refine brN (by assumption) ?_ | (with_reducible refine brT ?_ ?_; · (simp only [Bool.and_eq_true, Bool.not_eq_true', decide_eq_true_eq, decide_eq_false_iff_not, beq_iff_eq, beq_eq_false_iff_ne, ne_eq] at *; omega)) | with_reducible refine br (fun _ => ?_) (fun _ => ?_) | with_reducible refine ⟨rfl, ?_⟩ | with_reducible refine ARound.succ ?_ | with_reducible refine PCall.call (cd) ?_ | with_reducible refine PCall.call (cp) ?_ | (refine call24 rfl ?_) | (refine call35 rfl ?_) | (refine append_new (xs := [byS 39]) (elems_all objL_hd rfl) (by decide) rfl (by decide) (by decide) ?_) | (refine call25 rfl ?_) | (refine call26 rfl ?_) | (refine allLtK_of lt_by ?_) | (refine allLtK_of (lt_one rfl) ?_)))
        · have hpre := List.isPrefixOf_iff_prefix.1 (by assumption : ([39, 39] : List UInt8).isPrefixOf (s.drop 1) = true)
          have hl2 : 2 < s.length := by have := hpre.length_le; simp only [List.length_cons, List.length_nil] at this; omega
          have hq2 : s.getD 2 0 = 39 := by
            obtain ⟨t, ht⟩ := hpre
            have : (s.drop 1).getD 1 0 = 39 := by rw [← ht]; rfl
            simpa [List.getD, List.getElem?_drop] using this
          refine ⟨.C true 2 0 [39] false true ⟨by omega, by omega, by simp, by simp, fun h => (by cases h), fun _ => ⟨hl2, hq2, s.length - 1, by rw [List.length_drop]; omega, ?_⟩⟩, by simp only [TxS.mu]; omega, rfl, by rw [hD]; rfl⟩
          obtain ⟨f, hf⟩ : ∃ f, s.length = f + 1 := ⟨s.length - 1, by omega⟩
          rw [start, hf, hc1, hc, textGo, if_neg (by simp), drop_cons hl2, if_pos (by exact hq2)]
          rfl
        · have hnp := (by assumption : ([39, 39] : List UInt8).isPrefixOf (s.drop 1) = false)
          refine leaf ?_ (oneS_lit _)
          obtain ⟨f, hf⟩ : ∃ f, s.length = f + 1 := ⟨s.length - 1, by omega⟩
          have hn2 : ¬ (s.drop 2).getD 0 0 = 39 := fun h => by
            rw [hc1, hc] at hnp
            cases he : s.drop 2 with
            | nil => rw [he] at h; exact absurd h (by decide)
            | cons a r =>
              rw [he] at h
              obtain rfl : a = 39 := h
              rw [he] at hnp
              simp [List.isPrefixOf] at hnp
          rw [start, hf, hc1, hc, textGo, if_neg (by simp), if_neg hn2]
          rfl
      · rw [show TxS.nn (TxS.B : TxS s) = 4 from if_neg hc]
        have h39 := decode39 (r := s.drop 2) hc
        rw [← hc1, ← hd1] at h39
        have hw1 := decodeL_width (s.drop 1)
        have hw2 := decodeL_le (s.drop 1) (by rw [hc1]; simp)
        rw [← hd1] at hw1 hw2
        have hR : (((Utf8.decode ⟨s.toArray⟩ 1).1 : Int) != 39) = true := by rw [bne_iff_ne]; omega
        have ew := cut_to (s := s) (pos := 1) (w := (Utf8.decode ⟨s.toArray⟩ 1).2) (by rw [List.length_drop] at hw2; omega)
        have es : (decide (0 ≤ ((1 : Nat) : Int)) && decide (((1 : Nat) : Int) ≤ IntKind.i64.wrap (((1 : Nat) : Int) + ((Utf8.decode ⟨s.toArray⟩ 1).2 : Int))) && decide (IntKind.i64.wrap (((1 : Nat) : Int) + ((Utf8.decode ⟨s.toArray⟩ 1).2 : Int)) ≤ ((s.length : Nat) : Int))) = true := by
          rw [List.length_drop] at hw2
          rw [w64 (by omega) (by omega)]
          simp only [Bool.and_eq_true, decide_eq_true_eq]
          omega
        iterate 40 (all_goals (try conv => whnf); all_goals (try first | with_reducible refine brY (by assumption) ?_ | with_reducible refine brN (by assumption) ?_ | (with_reducible refine brT ?_ ?_; · (simp only [Bool.and_eq_true, Bool.not_eq_true', decide_eq_true_eq, decide_eq_false_iff_not, beq_iff_eq, beq_eq_false_iff_ne, ne_eq] at *; omega)) | with_reducible refine br (fun _ => ?_) (fun _ => ?_) | with_reducible refine ⟨rfl, ?_⟩ | with_reducible refine ARound.succ ?_ | with_reducible refine PCall.call (cd) ?_ | with_reducible refine PCall.call (cp) ?_ | (rw [ew]; refine ws_first (by rw [List.length_take]; omega) (by rw [List.length_take]; omega) ?_) | (refine allLtK_of lt_by ?_) | (refine allLtK_of (lt_one rfl) ?_)))
        all_goals
          obtain ⟨f, hf⟩ : ∃ f, s.length = f + 1 := ⟨s.length - 1, by omega⟩
          have hgo := textGo_char (f := f) (i := 1) (l := s.drop 1) (buf := []) (bad := false) (by rw [hc1]; simp) (by rw [getD_drop]; exact hc)
          rw [← hf, ← start, ← hd1, List.nil_append, Bool.false_or, List.drop_drop] at hgo
        · have hr := (by assumption : (((Utf8.decode ⟨s.toArray⟩ 1).1 : Int) == 65533) = true)
          have e1 : ((Utf8.decode ⟨s.toArray⟩ 1).1 == 65533) = true := by rw [← int_beq]; exact hr
          have e2 : (((Utf8.decode ⟨s.toArray⟩ 1).2 : Int) == 1) = ((Utf8.decode ⟨s.toArray⟩ 1).2 == 1) := int_beq _ 1
          rw [e1, Bool.true_and] at hgo
          refine ⟨.C false (1 + (Utf8.decode ⟨s.toArray⟩ 1).2) 0 ((s.drop 1).take (Utf8.decode ⟨s.toArray⟩ 1).2) ((Utf8.decode ⟨s.toArray⟩ 1).2 == 1) false ⟨by omega, by omega, by rw [List.length_take]; omega, by rw [List.length_take]; omega, fun _ => ⟨f, by rw [List.length_drop]; omega, hgo⟩, fun h => (by cases h)⟩, by simp only [TxS.mu]; omega, by rw [e2], rfl⟩
        · have hr := (by assumption : (((Utf8.decode ⟨s.toArray⟩ 1).1 : Int) == 65533) = false)
          have e1 : ((Utf8.decode ⟨s.toArray⟩ 1).1 == 65533) = false := by rw [← int_beq]; exact hr
          rw [e1, Bool.false_and] at hgo
          refine ⟨.C false (1 + (Utf8.decode ⟨s.toArray⟩ 1).2) 0 ((s.drop 1).take (Utf8.decode ⟨s.toArray⟩ 1).2) false false ⟨by omega, by omega, by rw [List.length_take]; omega, by rw [List.length_take]; omega, fun _ => ⟨f, by rw [List.length_drop]; omega, hgo⟩, fun h => (by cases h)⟩, by simp only [TxS.mu]; omega, rfl, rfl⟩
    · have hb : Nat.blt 1 s.length = false := by rw [Bool.eq_false_iff, ne_eq, Nat.blt, Nat.ble_eq]; exact hl
      iterate 24 (all_goals (try conv => whnf); all_goals (try first | with_reducible refine brY (by assumption) ?_ | with_reducible refine brN (by assumption) ?_ | (with_reducible refine brT ?_ ?_; · (simp only [Bool.and_eq_true, Bool.not_eq_true', decide_eq_true_eq, decide_eq_false_iff_not, beq_iff_eq, beq_eq_false_iff_ne, ne_eq] at *; omega)) | with_reducible refine br (fun _ => ?_) (fun _ => ?_) | with_reducible refine ⟨rfl, ?_⟩ | with_reducible refine ARound.succ ?_))
      refine leaf ?_ (oneS_lit _)
      rw [start, List.drop_of_length_le (by omega)]
      cases s with
      | nil => exact absurd rfl hne
      | cons c r => rfl
  · have hdl : (s.drop pos).length = s.length - pos := List.length_drop
    have p1 := hI.p1
    have pl := hI.pl
    have b0 := hI.b0
    have bl := hI.bl
    have hd1 := decode_pos s pos
    have hb0 : ((pos : Int) == 0) = false := by rw [beq_eq_false_iff_ne]; omega
    have qg : Nat.beq g g = true := nbeq_self g
    cases dbl with
    | true =>
      obtain ⟨hl, hq1, f, hf, hgo⟩ := hI.go2 rfl
      have hD : Utf8.decode ⟨s.toArray⟩ pos = (39, 1) := by rw [hd1, drop_cons hl, hq1, decodeL_q]
      have hb : Nat.blt pos s.length = true := by rw [Nat.blt, Nat.ble_eq]; exact hl
      cases fb with
      | false =>
        rw [show TxS.nn (TxS.C false pos g buf bad true hI) = 4 from rfl]
        iterate 20 (all_goals (try conv => whnf); all_goals (try first | with_reducible refine brY (by assumption) ?_ | with_reducible refine brN (by assumption) ?_ | (with_reducible refine brT ?_ ?_; · (simp only [Bool.and_eq_true, Bool.not_eq_true', decide_eq_true_eq, decide_eq_false_iff_not, beq_iff_eq, beq_eq_false_iff_ne, ne_eq] at *; omega)) | with_reducible refine br (fun _ => ?_) (fun _ => ?_) | with_reducible refine ⟨rfl, ?_⟩ | with_reducible refine ARound.succ ?_ | (refine allLtK_of lt_by ?_)))
        refine ⟨.C false (pos + 1) g buf bad false ⟨by omega, by omega, b0, by omega, fun _ => ⟨f, hf, hgo⟩, fun h => (by cases h)⟩, by simp only [TxS.mu]; omega, rfl, by rw [hD]⟩
      | true =>
        rw [show TxS.nn (TxS.C true pos g buf bad true hI) = 5 from rfl]
        iterate 20 (all_goals (try conv => whnf); all_goals (try first | with_reducible refine brY (by assumption) ?_ | with_reducible refine brN (by assumption) ?_ | (with_reducible refine brT ?_ ?_; · (simp only [Bool.and_eq_true, Bool.not_eq_true', decide_eq_true_eq, decide_eq_false_iff_not, beq_iff_eq, beq_eq_false_iff_ne, ne_eq] at *; omega)) | with_reducible refine br (fun _ => ?_) (fun _ => ?_) | with_reducible refine ⟨rfl, ?_⟩ | with_reducible refine ARound.succ ?_ | (refine allLtK_of lt_by ?_) | (refine allLtK_of (lt_one rfl) ?_)))
        refine ⟨.C true (pos + 1) g buf bad false ⟨by omega, by omega, b0, by omega, fun _ => ⟨f, hf, hgo⟩, fun h => (by cases h)⟩, by simp only [TxS.mu]; omega, rfl, by rw [hD]⟩
    | false =>
      obtain ⟨f, hf, hgo⟩ := hI.go rfl
      by_cases hl : pos < s.length
      · have hb : Nat.blt pos s.length = true := by rw [Nat.blt, Nat.ble_eq]; exact hl
        have hc1 := drop_cons hl
        have cd := decode_from hl
        have cp := prefix_from (s := s) (pos := pos)
        obtain ⟨f, rfl⟩ : ∃ f', f = f' + 1 := ⟨f - 1, by omega⟩
        by_cases hc : s.getD pos 0 = 39
        · have hD : Utf8.decode ⟨s.toArray⟩ pos = (39, 1) := by rw [hd1, hc1, hc, decodeL_q]
          have hR : (((Utf8.decode ⟨s.toArray⟩ pos).1 : Int) != 39) = false := by rw [hD]; rfl
          cases fb
          · rw [show TxS.nn (TxS.C false pos g buf bad false hI) = 4 from rfl]
            by_cases hq1 : s.getD (pos + 1) 0 = 39
            · have hpre : ([39, 39] : List UInt8).isPrefixOf (s.drop pos) = true := qq_iff.2 ⟨by rw [getD_drop]; exact hc, by rw [getD_drop]; exact hq1⟩
              have hl2 : pos + 1 < s.length := by
                rcases Nat.lt_or_ge (pos + 1) s.length with h | h
                · exact h
                · exfalso; revert hq1; simp [List.getD, List.getElem?_eq_none h]
              have hg2 := textGo_two (f := f) (i := pos) (l := s.drop pos) (buf := buf) (bad := bad) (by rw [getD_drop]; exact hc) (by rw [getD_drop]; exact hq1)
              rw [← hgo, List.drop_drop] at hg2
              iterate 40 (all_goals (try conv => whnf); all_goals (try first | with_reducible refine brY (by assumption) ?_ | with_reducible refine brN (by assumption) ?_ | (with_reducible refine brT ?_ ?_; · (simp only [Bool.and_eq_true, Bool.not_eq_true', decide_eq_true_eq, decide_eq_false_iff_not, beq_iff_eq, beq_eq_false_iff_ne, ne_eq] at *; omega)) | with_reducible refine br (fun _ => ?_) (fun _ => ?_) | with_reducible refine ⟨rfl, ?_⟩ | with_reducible refine ARound.succ ?_ | with_reducible refine PCall.call (cp) ?_ | (refine wb_app (bi := 1) (j := 3) (g := g) (o := buf) (c := 39) rfl rfl rfl (by omega) (by omega) (by omega) ltHF (by omega) ?_) | (refine allLtK_of lt_by ?_) | (refine allLtK_of (lt_one rfl) ?_)))
              refine ⟨.C false (pos + 1) (g + 1) (buf ++ [39]) bad true ⟨by omega, by omega, by simp, by simp; omega, fun h => (by cases h), fun _ => ⟨hl2, hq1, f, by rw [List.length_drop] at hf ⊢; omega, hg2⟩⟩, by simp only [TxS.mu]; omega, rfl, by rw [hD]; rfl⟩
            · have hpre : ([39, 39] : List UInt8).isPrefixOf (s.drop pos) = false := by
                rw [Bool.eq_false_iff, ne_eq, qq_iff, getD_drop, getD_drop]
                exact fun h => hq1 h.2
              have hg2 := textGo_end (f := f) (i := pos) (l := s.drop pos) (buf := buf) (bad := bad) (by rw [getD_drop]; exact hc) (by rw [getD_drop]; exact hq1)
              rw [← hgo] at hg2
              cases bad with
              | true =>
                iterate 40 (all_goals (try conv => whnf); all_goals (try first | with_reducible refine brY (by assumption) ?_ | with_reducible refine brN (by assumption) ?_ | (with_reducible refine brT ?_ ?_; · (simp only [Bool.and_eq_true, Bool.not_eq_true', decide_eq_true_eq, decide_eq_false_iff_not, beq_iff_eq, beq_eq_false_iff_ne, ne_eq] at *; omega)) | with_reducible refine br (fun _ => ?_) (fun _ => ?_) | with_reducible refine ⟨rfl, ?_⟩ | with_reducible refine ARound.succ ?_ | with_reducible refine PCall.call (cp) ?_))
                exact leaf (by rw [hg2]; rfl) (oneS_lit _)
              | false =>
                iterate 40 (all_goals (try conv => whnf); all_goals (try first | with_reducible refine brY (by assumption) ?_ | with_reducible refine brN (by assumption) ?_ | (with_reducible refine brT ?_ ?_; · (simp only [Bool.and_eq_true, Bool.not_eq_true', decide_eq_true_eq, decide_eq_false_iff_not, beq_iff_eq, beq_eq_false_iff_ne, ne_eq] at *; omega)) | with_reducible refine br (fun _ => ?_) (fun _ => ?_) | with_reducible refine ⟨rfl, ?_⟩ | with_reducible refine ARound.succ ?_ | with_reducible refine PCall.call (cp) ?_ | (refine call25 rfl ?_) | (refine bs_str2 (bi := 1) (j := 3) (g := g) (o := buf) rfl rfl b0 (by omega) ?_)))
                · have h := of_decide_eq_true (by assumption : decide ((64 : Int) < ((buf.length : Nat) : Int)) = true)
                  exact leaf (by rw [hg2, if_neg (by decide), if_pos (by omega)]; rfl) (oneS_lit _)
                · have h := of_decide_eq_false (by assumption : decide ((64 : Int) < ((buf.length : Nat) : Int)) = false)
                  exact leaf (by rw [hg2, if_neg (by decide), if_neg (by omega), w64add (by omega)]; rfl) (oneS_lit _)
          · rw [show TxS.nn (TxS.C true pos g buf bad false hI) = 5 from rfl]
            by_cases hq1 : s.getD (pos + 1) 0 = 39
            · have hpre : ([39, 39] : List UInt8).isPrefixOf (s.drop pos) = true := qq_iff.2 ⟨by rw [getD_drop]; exact hc, by rw [getD_drop]; exact hq1⟩
              have hl2 : pos + 1 < s.length := by
                rcases Nat.lt_or_ge (pos + 1) s.length with h | h
                · exact h
                · exfalso; revert hq1; simp [List.getD, List.getElem?_eq_none h]
              have hg2 := textGo_two (f := f) (i := pos) (l := s.drop pos) (buf := buf) (bad := bad) (by rw [getD_drop]; exact hc) (by rw [getD_drop]; exact hq1)
              rw [← hgo, List.drop_drop] at hg2
              iterate 40 (all_goals (try conv => whnf); all_goals (try first | with_reducible refine brY (by assumption) ?_ | with_reducible refine brN (by assumption) ?_ | (with_reducible refine brT ?_ ?_; · (simp only [Bool.and_eq_true, Bool.not_eq_true', decide_eq_true_eq, decide_eq_false_iff_not, beq_iff_eq, beq_eq_false_iff_ne, ne_eq] at *; omega)) | with_reducible refine br (fun _ => ?_) (fun _ => ?_) | with_reducible refine ⟨rfl, ?_⟩ | with_reducible refine ARound.succ ?_ | with_reducible refine PCall.call (cp) ?_ | (refine wb_app (bi := 1) (j := 4) (g := g) (o := buf) (c := 39) rfl rfl rfl (by omega) (by omega) (by omega) ltHT (by omega) ?_) | (refine allLtK_of lt_by ?_) | (refine allLtK_of (lt_one rfl) ?_)))
              refine ⟨.C true (pos + 1) (g + 1) (buf ++ [39]) bad true ⟨by omega, by omega, by simp, by simp; omega, fun h => (by cases h), fun _ => ⟨hl2, hq1, f, by rw [List.length_drop] at hf ⊢; omega, hg2⟩⟩, by simp only [TxS.mu]; omega, rfl, by rw [hD]; rfl⟩
            · have hpre : ([39, 39] : List UInt8).isPrefixOf (s.drop pos) = false := by
                rw [Bool.eq_false_iff, ne_eq, qq_iff, getD_drop, getD_drop]
                exact fun h => hq1 h.2
              have hg2 := textGo_end (f := f) (i := pos) (l := s.drop pos) (buf := buf) (bad := bad) (by rw [getD_drop]; exact hc) (by rw [getD_drop]; exact hq1)
              rw [← hgo] at hg2
              cases bad with
              | true =>
                iterate 40 (all_goals (try conv => whnf); all_goals (try first | with_reducible refine brY (by assumption) ?_ | with_reducible refine brN (by assumption) ?_ | (with_reducible refine brT ?_ ?_; · (simp only [Bool.and_eq_true, Bool.not_eq_true', decide_eq_true_eq, decide_eq_false_iff_not, beq_iff_eq, beq_eq_false_iff_ne, ne_eq] at *; omega)) | with_reducible refine br (fun _ => ?_) (fun _ => ?_) | with_reducible refine ⟨rfl, ?_⟩ | with_reducible refine ARound.succ ?_ | with_reducible refine PCall.call (cp) ?_))
                exact leaf (by rw [hg2]; rfl) (oneS_lit _)
              | false =>
                iterate 40 (all_goals (try conv => whnf); all_goals (try first | with_reducible refine brY (by assumption) ?_ | with_reducible refine brN (by assumption) ?_ | (with_reducible refine brT ?_ ?_; · (simp only [Bool.and_eq_true, Bool.not_eq_true', decide_eq_true_eq, decide_eq_false_iff_not, beq_iff_eq, beq_eq_false_iff_ne, ne_eq] at *; omega)) | with_reducible refine br (fun _ => ?_) (fun _ => ?_) | with_reducible refine ⟨rfl, ?_⟩ | with_reducible refine ARound.succ ?_ | with_reducible refine PCall.call (cp) ?_ | (refine call25 rfl ?_) | (refine bs_str2 (bi := 1) (j := 4) (g := g) (o := buf) rfl rfl b0 (by omega) ?_)))
                · have h := of_decide_eq_true (by assumption : decide ((64 : Int) < ((buf.length : Nat) : Int)) = true)
                  exact leaf (by rw [hg2, if_neg (by decide), if_pos (by omega)]; rfl) (oneS_lit _)
                · have h := of_decide_eq_false (by assumption : decide ((64 : Int) < ((buf.length : Nat) : Int)) = false)
                  exact leaf (by rw [hg2, if_neg (by decide), if_neg (by omega), w64add (by omega)]; rfl) (oneS_lit _)
        · have h39 := decode39 (r := s.drop (pos + 1)) hc
          rw [← hc1, ← hd1] at h39
          have hw1 := decodeL_width (s.drop pos)
          have hw2 := decodeL_le (s.drop pos) (by rw [hc1]; simp)
          rw [← hd1] at hw1 hw2
          have hR : (((Utf8.decode ⟨s.toArray⟩ pos).1 : Int) != 39) = true := by rw [bne_iff_ne]; omega
          have ew := cut_to (s := s) (pos := pos) (w := (Utf8.decode ⟨s.toArray⟩ pos).2) (by omega)
          have es : (decide (0 ≤ ((pos : Nat) : Int)) && decide (((pos : Nat) : Int) ≤ IntKind.i64.wrap (((pos : Nat) : Int) + ((Utf8.decode ⟨s.toArray⟩ pos).2 : Int))) && decide (IntKind.i64.wrap (((pos : Nat) : Int) + ((Utf8.decode ⟨s.toArray⟩ pos).2 : Int)) ≤ ((s.length : Nat) : Int))) = true := by
            rw [w64 (by omega) (by omega)]
            simp only [Bool.and_eq_true, decide_eq_true_eq]
            omega
          have hg2 := textGo_char (f := f) (i := pos) (l := s.drop pos) (buf := buf) (bad := bad) (by rw [hc1]; simp) (by rw [getD_drop]; exact hc)
          rw [← hgo, ← hd1, List.drop_drop] at hg2
          cases fb
          · rw [show TxS.nn (TxS.C false pos g buf bad false hI) = 4 from rfl]
            cases bad with
            | true =>
              iterate 40 (all_goals (try conv => whnf); all_goals (try first | with_reducible refine brY (by assumption) ?_ | with_reducible refine brN (by assumption) ?_ | (with_reducible refine brT ?_ ?_; · (simp only [Bool.and_eq_true, Bool.not_eq_true', decide_eq_true_eq, decide_eq_false_iff_not, beq_iff_eq, beq_eq_false_iff_ne, ne_eq] at *; omega)) | with_reducible refine br (fun _ => ?_) (fun _ => ?_) | with_reducible refine ⟨rfl, ?_⟩ | with_reducible refine ARound.succ ?_ | with_reducible refine PCall.call (cd) ?_ | (rw [ew]; refine ws_app (bi := 1) (j := 3) (g := g) (o := buf) rfl rfl (by omega) (by omega) (by omega) ltHF (by rw [List.length_take]; omega) (fun g' => ?_)) | (refine allLtK_of lt_by ?_) | (refine allLtK_of (lt_one rfl) ?_)))
              refine ⟨.C false (pos + (Utf8.decode ⟨s.toArray⟩ pos).2) g' (buf ++ (s.drop pos).take (Utf8.decode ⟨s.toArray⟩ pos).2) true false ⟨by omega, by omega, by rw [List.length_append]; omega, by rw [List.length_append, List.length_take]; omega, fun _ => ⟨f, by rw [List.length_drop] at hf ⊢; omega, hg2⟩, fun h => (by cases h)⟩, by simp only [TxS.mu]; omega, rfl, rfl⟩
            | false =>
              iterate 40 (all_goals (try conv => whnf); all_goals (try first | with_reducible refine brY (by assumption) ?_ | with_reducible refine brN (by assumption) ?_ | (with_reducible refine brT ?_ ?_; · (simp only [Bool.and_eq_true, Bool.not_eq_true', decide_eq_true_eq, decide_eq_false_iff_not, beq_iff_eq, beq_eq_false_iff_ne, ne_eq] at *; omega)) | with_reducible refine br (fun _ => ?_) (fun _ => ?_) | with_reducible refine ⟨rfl, ?_⟩ | with_reducible refine ARound.succ ?_ | with_reducible refine PCall.call (cd) ?_ | (rw [ew]; refine ws_app (bi := 1) (j := 3) (g := g) (o := buf) rfl rfl (by omega) (by omega) (by omega) ltHF (by rw [List.length_take]; omega) (fun g' => ?_)) | (refine allLtK_of lt_by ?_) | (refine allLtK_of (lt_one rfl) ?_)))
              · have hr := (by assumption : (((Utf8.decode ⟨s.toArray⟩ pos).1 : Int) == 65533) = true)
                have e1 : ((Utf8.decode ⟨s.toArray⟩ pos).1 == 65533) = true := by rw [← int_beq]; exact hr
                have e2 : (((Utf8.decode ⟨s.toArray⟩ pos).2 : Int) == 1) = ((Utf8.decode ⟨s.toArray⟩ pos).2 == 1) := int_beq _ 1
                rw [Bool.false_or, e1, Bool.true_and] at hg2
                refine ⟨.C false (pos + (Utf8.decode ⟨s.toArray⟩ pos).2) g' (buf ++ (s.drop pos).take (Utf8.decode ⟨s.toArray⟩ pos).2) ((Utf8.decode ⟨s.toArray⟩ pos).2 == 1) false ⟨by omega, by omega, by rw [List.length_append]; omega, by rw [List.length_append, List.length_take]; omega, fun _ => ⟨f, by rw [List.length_drop] at hf ⊢; omega, hg2⟩, fun h => (by cases h)⟩, by simp only [TxS.mu]; omega, by rw [e2], rfl⟩
              · have hr := (by assumption : (((Utf8.decode ⟨s.toArray⟩ pos).1 : Int) == 65533) = false)
                have e1 : ((Utf8.decode ⟨s.toArray⟩ pos).1 == 65533) = false := by rw [← int_beq]; exact hr
                rw [Bool.false_or, e1, Bool.false_and] at hg2
                refine ⟨.C false (pos + (Utf8.decode ⟨s.toArray⟩ pos).2) g' (buf ++ (s.drop pos).take (Utf8.decode ⟨s.toArray⟩ pos).2) false false ⟨by omega, by omega, by rw [List.length_append]; omega, by rw [List.length_append, List.length_take]; omega, fun _ => ⟨f, by rw [List.length_drop] at hf ⊢; omega, hg2⟩, fun h => (by cases h)⟩, by simp only [TxS.mu]; omega, rfl, rfl⟩
          · rw [show TxS.nn (TxS.C true pos g buf bad false hI) = 5 from rfl]
            cases bad with
            | true =>
              iterate 40 (all_goals (try conv => whnf); all_goals (try first | with_reducible refine brY (by assumption) ?_ | with_reducible refine brN (by assumption) ?_ | (with_reducible refine brT ?_ ?_; · (simp only [Bool.and_eq_true, Bool.not_eq_true', decide_eq_true_eq, decide_eq_false_iff_not, beq_iff_eq, beq_eq_false_iff_ne, ne_eq] at *; omega)) | with_reducible refine br (fun _ => ?_) (fun _ => ?_) | with_reducible refine ⟨rfl, ?_⟩ | with_reducible refine ARound.succ ?_ | with_reducible refine PCall.call (cd) ?_ | (rw [ew]; refine ws_app (bi := 1) (j := 4) (g := g) (o := buf) rfl rfl (by omega) (by omega) (by omega) ltHT (by rw [List.length_take]; omega) (fun g' => ?_)) | (refine allLtK_of lt_by ?_) | (refine allLtK_of (lt_one rfl) ?_)))
              refine ⟨.C true (pos + (Utf8.decode ⟨s.toArray⟩ pos).2) g' (buf ++ (s.drop pos).take (Utf8.decode ⟨s.toArray⟩ pos).2) true false ⟨by omega, by omega, by rw [List.length_append]; omega, by rw [List.length_append, List.length_take]; omega, fun _ => ⟨f, by rw [List.length_drop] at hf ⊢; omega, hg2⟩, fun h => (by cases h)⟩, by simp only [TxS.mu]; omega, rfl, rfl⟩
            | false =>
              iterate 40 (all_goals (try conv => whnf); all_goals (try first | with_reducible refine brY (by assumption) ?_ | with_reducible refine brN (by assumption) ?_ | (with_reducible refine brT ?_ ?_; · (simp only [Bool.and_eq_true, Bool.not_eq_true', decide_eq_true_eq, decide_eq_false_iff_not, beq_iff_eq, beq_eq_false_iff_ne, ne_eq] at *; omega)) | with_reducible refine br (fun _ => ?_) (fun _ => ?_) | with_reducible refine ⟨rfl, ?_⟩ | with_reducible refine ARound.succ ?_ | with_reducible refine PCall.call (cd) ?_ | (rw [ew]; refine ws_app (bi := 1) (j := 4) (g := g) (o := buf) rfl rfl (by omega) (by omega) (by omega) ltHT (by rw [List.length_take]; omega) (fun g' => ?_)) | (refine allLtK_of lt_by ?_) | (refine allLtK_of (lt_one rfl) ?_)))
              · have hr := (by assumption : (((Utf8.decode ⟨s.toArray⟩ pos).1 : Int) == 65533) = true)
                have e1 : ((Utf8.decode ⟨s.toArray⟩ pos).1 == 65533) = true := by rw [← int_beq]; exact hr
                have e2 : (((Utf8.decode ⟨s.toArray⟩ pos).2 : Int) == 1) = ((Utf8.decode ⟨s.toArray⟩ pos).2 == 1) := int_beq _ 1
                rw [Bool.false_or, e1, Bool.true_and] at hg2
                refine ⟨.C true (pos + (Utf8.decode ⟨s.toArray⟩ pos).2) g' (buf ++ (s.drop pos).take (Utf8.decode ⟨s.toArray⟩ pos).2) ((Utf8.decode ⟨s.toArray⟩ pos).2 == 1) false ⟨by omega, by omega, by rw [List.length_append]; omega, by rw [List.length_append, List.length_take]; omega, fun _ => ⟨f, by rw [List.length_drop] at hf ⊢; omega, hg2⟩, fun h => (by cases h)⟩, by simp only [TxS.mu]; omega, by rw [e2], rfl⟩
              · have hr := (by assumption : (((Utf8.decode ⟨s.toArray⟩ pos).1 : Int) == 65533) = false)
                have e1 : ((Utf8.decode ⟨s.toArray⟩ pos).1 == 65533) = false := by rw [← int_beq]; exact hr
                rw [Bool.false_or, e1, Bool.false_and] at hg2
                refine ⟨.C true (pos + (Utf8.decode ⟨s.toArray⟩ pos).2) g' (buf ++ (s.drop pos).take (Utf8.decode ⟨s.toArray⟩ pos).2) false false ⟨by omega, by omega, by rw [List.length_append]; omega, by rw [List.length_append, List.length_take]; omega, fun _ => ⟨f, by rw [List.length_drop] at hf ⊢; omega, hg2⟩, fun h => (by cases h)⟩, by simp only [TxS.mu]; omega, rfl, rfl⟩
      · have hb : Nat.blt pos s.length = false := by rw [Bool.eq_false_iff, ne_eq, Nat.blt, Nat.ble_eq]; exact hl
        rw [List.drop_of_length_le (by omega), textGo_nil] at hgo
        cases fb <;> iterate 24 (all_goals (try conv => whnf); all_goals (try first | with_reducible refine brY (by assumption) ?_ | with_reducible refine brN (by assumption) ?_ | (with_reducible refine brT ?_ ?_; · (simp only [Bool.and_eq_true, Bool.not_eq_true', decide_eq_true_eq, decide_eq_false_iff_not, beq_iff_eq, beq_eq_false_iff_ne, ne_eq] at *; omega)) | with_reducible refine br (fun _ => ?_) (fun _ => ?_) | with_reducible refine ⟨rfl, ?_⟩ | with_reducible refine ARound.succ ?_))
        all_goals exact leaf (by rw [hgo]; rfl) (oneS_lit _)
end Go.Proofs.YtboinbjiemmggaaDoor
