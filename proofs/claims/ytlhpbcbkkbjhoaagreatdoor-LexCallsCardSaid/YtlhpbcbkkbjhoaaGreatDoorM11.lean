/- Parts of the proof of PLexCalls, one behind the other. -/
import Derived.Test.YtlhpbcbkkbjhoaaGreatDoorM10
import Derived.Test.YtlhpbcbkkbjhoaaGreatDoorM8
import Derived.Test.YtlhpbcbkkbjhoaaGreatDoorM9
import Derived.Lib.SmallJoins
import Derived.Lib.TrimAscii
import Derived.KernelRfl
namespace Go.Proofs.YtlhpbcbkkbjhoaaGreatDoor
open Ab Go.RowKit
set_option maxRecDepth 100000
set_option linter.unusedVariables false
theorem vp_tup2 {Im : Nat → Prop} {w : World} {a b : SV} {x y : Value} (ha : VP Im w a x) (hb : VP Im w b y) : VP Im w (.tup [a, b]) (.tuple #[x, y]) :=
  .tup _ _ rfl fun i v z hv hz => by
    rcases i with _ | _ | i
    · cases hv; cases hz; exact ha
    · cases hv; cases hz; exact hb
    · simp at hv
theorem first_tab : ∀ c : Fin 256, (globTab 0)[c.val]? = some (IntKind.u8, (Lib.firstT c.val : Int)) := by decide +kernel
theorem acc_tab : ∀ i : Fin 16, (globTab 1)[2 * i.val]? = some (IntKind.u8, (Lib.accLo i.val : Int)) ∧ (globTab 1)[2 * i.val + 1]? = some (IntKind.u8, (Lib.accHi i.val : Int)) := by decide +kernel
theorem utf8_tabs {Im : Nat → Prop} {w : World} (hg : GlobOk Im w) : Lib.Utf8Tabs 0 1 w :=
  ⟨fun c hc => hg.cell (first_tab ⟨c, hc⟩), fun i hi => ⟨hg.cell (acc_tab ⟨i, hi⟩).1, hg.cell (acc_tab ⟨i, hi⟩).2⟩⟩
theorem decode_any (s : List UInt8) : PCall Tryz.prog 52 [.str s] (.tup [.int .i32 ((Lib.decodeGo ⟨s.toArray⟩).1 : Nat), .int .i64 ((Lib.decodeGo ⟨s.toArray⟩).2 : Nat)]) := by
  refine pcall_below (lits1 (.str _)) (lit2 (.int _ _) (.int _ _)) fun Im w xs hg him hz hv => ?_
  obtain rfl := args1 hz hv (fun _ h => h.str_inv')
  refine (Any.utf8_DecodeRuneInString Tryz.lays197 ⟨s.toArray⟩ w (utf8_tabs hg)).mono fun e w' h => ?_
  obtain ⟨rfl, hb⟩ := h
  exact ⟨⟨_, rfl, vp_tup2 (.int _ _) (.int _ _)⟩, hb⟩
theorem toLower_any {s : List UInt8} (hs : s.length ≤ 140737488355328) (ha : ∀ c ∈ s, c.toNat < 128) : PCall Tryz.prog 50 [.str s] (.str (Lib.toLowerA s)) := by
  refine pcall_below (lits1 (.str _)) (.str _) fun Im w xs hg him hz hv => ?_
  obtain rfl := args1 hz hv (fun _ h => h.str_inv')
  refine (Any.strings_ToLower_ascii Tryz.lays159 Tryz.builderExtra ⟨s.toArray⟩ w (by simpa [ByteArray.size] using hs) fun j b hb => ha b (List.mem_of_getElem? (by simpa using hb))).mono fun e w' h => ?_
  obtain ⟨rfl, hb⟩ := h
  exact ⟨⟨_, rfl, .str _⟩, hb⟩
theorem parse_ok {s : List UInt8} {u : Nat} (hs : s.length ≤ 1000000) (hu : Lib.parseUintB 64 s = .ok u) : PCall Tryz.prog 51 [.str s, .int .i64 10, .int .i64 64] (.tup [.int .u64 u, .nili]) := by
  refine pcall_below (lits3 (.str _) (.int _ _) (.int _ _)) (lit2 (.int _ _) .nili) fun Im w xs hg him hz hv => ?_
  obtain rfl := args3 hz hv (fun _ h => h.str_inv') (fun _ h => h.int_inv') (fun _ h => h.int_inv')
  refine (Any.strconv_ParseUint_10_at64_ok Tryz.laysPu14 ⟨s.toArray⟩ (by simp only [ByteArray.size, List.size_toArray]; omega) u hu w).mono fun e w' h => ?_
  obtain ⟨rfl, hb⟩ := h
  refine ⟨⟨_, rfl, vp_tup2 (.int _ _) .nili⟩, ?_⟩
  rcases hb with rfl | rfl
  · exact Below.refl _ _
  · exact Go.Joins.below_bytesWorld _ _ _ _ (Nat.le_refl _)
theorem parse_range {s : List UInt8} (hs : s.length ≤ 1000000) (hu : Lib.parseUintB 64 s = .range) : ∃ t, PCall Tryz.prog 51 [.str s, .int .i64 10, .int .i64 64] (.tup [.int .u64 18446744073709551615, .iface t .undef]) := by
  refine ⟨Tryz.laysPu14_ren.t 39, pcall_below (lits3 (.str _) (.int _ _) (.int _ _)) (lit2 (.int _ _) (.iface _ .undef)) fun Im w xs hg him hz hv => ?_⟩
  obtain rfl := args3 hz hv (fun _ h => h.str_inv') (fun _ h => h.int_inv') (fun _ h => h.int_inv')
  obtain ⟨_, v, ty, fz, h1, h2⟩ := hg.2 8 (by decide)
  refine (Any.strconv_ParseUint_10_at64_range Tryz.laysPu14 ⟨s.toArray⟩ (by simp only [ByteArray.size, List.size_toArray]; omega) hu v w (by show w.cell? ⟨8, 0, none⟩ = some v; unfold World.cell?; rw [h1]; rfl) h2).mono fun e w' h => ?_
  obtain ⟨N, rfl, _, _, hb⟩ := h
  exact ⟨⟨_, rfl, vp_tup2 (.int _ _) (.iface _ _ _ (.undef _))⟩, hb⟩
end Go.Proofs.YtlhpbcbkkbjhoaaGreatDoor
namespace Go.Proofs.YtlhpbcbkkbjhoaaGreatDoor
open Ab Go.RowKit
set_option maxRecDepth 100000
set_option linter.unusedVariables false
set_option linter.unusedSimpArgs false
attribute [local irreducible] appendK allLtK
abbrev TP := Tk × Nat
@[reducible] def tokP (x : TP) : SV := .agg [.int .u8 x.1.k, .str x.1.t, .int .u64 x.1.n, .int .i64 x.2]
def tnull : TP := (⟨0, [], 0⟩, 0)
@[reducible] def lstT (l : List TP) : SV := .lst 4 l.length fun i => tokP (l.getD i tnull)
theorem tokP_lit (x : TP) : LitV (tokP x) := .agg (by simp only [List.mem_cons, List.not_mem_nil, or_false]; rintro _ (rfl | rfl | rfl | rfl) <;> constructor)
theorem lit3 {a b c : SV} (ha : LitV a) (hb : LitV b) (hc : LitV c) : LitV (.tup [a, b, c]) := .tup (by simp only [List.mem_cons, List.not_mem_nil, or_false]; rintro _ (rfl | rfl | rfl); exact ha; exact hb; exact hc)
/-- What is answered for the token that a text begins with. -/
def oneS : One → SV
  | .ok x n => .tup [tokP (x, 0), .int .i64 n, .int .i64 0]
  | .err e => .tup [tokP tnull, .int .i64 0, .int .i64 e]
theorem oneS_lit (o : One) : LitV (oneS o) := by cases o <;> exact lit3 (tokP_lit _) (.int _ _) (.int _ _)
theorem takeT {l : List TP} {k : Nat} (h : k < l.length) : l.take (k + 1) = l.take k ++ [l.getD k tnull] := by
  rw [List.take_add_one]
  simp [List.getD, h]
theorem agree_ts : ∀ (s : List TP) (k : Nat) (get : Nat → SV), (∀ j, j < s.length → get (k + j) = (tokP (s.getD j tnull))) → agree (s.map tokP) k get
  | [], _, _, _ => trivial
  | b :: r, k, get, h => by
    refine ⟨?_, tokP_lit _, agree_ts r (k + 1) get fun j hj => ?_⟩
    · have := h 0 (by simp)
      simpa using this.symm
    · have := h (j + 1) (by simp; omega)
      rw [show k + 1 + j = k + (j + 1) by omega, this]
      simp [List.getD]
theorem hard_ts {A : Heap} {i g : Nat} {cap : Option Nat} {s : List TP} {n : Nat} {sk : Sk} (ho : A.obj i = some (.vec g 4 (s.map tokP) sk)) (hn : n = s.length) : Hard A (.sl i g 4 0 n cap) (lstT s) := by
  subst hn
  have := hard_all (cap := cap) (get := fun i => (tokP (s.getD i tnull))) ho (agree_ts s 0 _ fun j _ => by rw [Nat.zero_add])
  rw [List.length_map] at this
  exact this
theorem lt_ts {n : Nat} {s : List TP} : ∀ v ∈ s.map tokP, SV.lt 8 n v = true := by
  intro v hv
  obtain ⟨b, _, rfl⟩ := List.mem_map.1 hv
  rfl
theorem app_tok1 {m : Nat} {v : TP} {sk : Sk} {l : List (Nat × AObj)} {k : SV → Heap → Prop}
    (hk : k (.sl (m + 1) 0 4 0 1 none) ⟨m + 2, (m + 1, .vec 0 4 [(tokP v)] ⟨true, some 27⟩) :: (m, .vec 0 4 [(tokP v)] sk) :: l⟩) :
    appendK 27 4 40 ⟨m + 1, (m, .vec 0 4 [(tokP v)] sk) :: l⟩ .nils (.sl m 0 4 0 1 (some 1)) k :=
  append_new (elems_all objL_hd rfl) (by simp) rfl (by simp) (by simp) hk
theorem app_tok {m i g : Nat} {vs : List TP} {v : TP} {sk : Sk} {l : List (Nat × AObj)} {k : SV → Heap → Prop} (ho : objL l i = some (.vec g 4 (vs.map tokP) ⟨true, some 27⟩)) (him : i < m) (hlen : vs.length ≤ 100000)
    (hk : k (.sl i (g + 1) 4 0 (vs.length + 1) none) ⟨m + 1, (m, .vec 0 4 [(tokP v)] sk) :: putO l i (.vec (g + 1) 4 ((vs ++ [v]).map tokP) ⟨true, some 27⟩)⟩) :
    appendK 27 4 40 ⟨m + 1, (m, .vec 0 4 [(tokP v)] sk) :: l⟩ (.sl i g 4 0 vs.length none) (.sl m 0 4 0 1 (some 1)) k := by
  refine append_mv (elems_all objL_hd rfl) (by simp) rfl (by rw [objL_nx (by omega)]; exact ho) (by simp) (by simp; omega) (by simp; omega) ?_
  rw [setO_eq]
  unfold putO
  rw [if_neg (by omega), joinTy_self]
  rw [List.map_append] at hk
  exact hk
theorem elems_ts {h : Heap} {s : List TP} : Elems h 4 (lstT s) (s.map tokP) := fun k hk => by
  refine elems_lst k ?_
  have e : (List.range s.length).map (fun i => (tokP (s.getD i tnull))) = s.map tokP := by
    apply List.ext_getElem
    · simp
    · intro i h1 h2
      simp only [List.length_map] at h2
      simp [h2]
  rw [e]; exact hk
theorem allOnes_ts : ∀ s : List TP, allOnes (s.map tokP) = true
  | [] => rfl
  | b :: r => by
    show (allOne (tokP b).cells && allOnes (r.map tokP)) = true
    rw [allOnes_ts r]; rfl
end Go.Proofs.YtlhpbcbkkbjhoaaGreatDoor
namespace Go.Proofs.YtlhpbcbkkbjhoaaGreatDoor
open Ab Go.RowKit
set_option maxRecDepth 100000
set_option linter.unusedVariables false
set_option linter.unusedSimpArgs false
set_option maxHeartbeats 4000000
set_option pp.maxSteps 3000
def letterI (m : Int) : Bool := (decide (97 ≤ bitsI .or .u8 m 32) && decide (bitsI .or .u8 m 32 ≤ 122)) || m == 95
theorem letterI_eq (c : UInt8) : letterI (c.toNat : Int) = isLetter c := by
  have : ∀ n : Fin 256, letterI ((UInt8.ofNat n.val).toNat : Int) = isLetter (UInt8.ofNat n.val) := by decide +kernel
  have h := this ⟨c.toNat, UInt8.toNat_lt c⟩
  simpa using h
theorem letter_int (m : Int) : PCall Tryz.prog 25 [.int .u8 m] (.bool (letterI m)) := by
  refine pcall_of (lits1 (.int _ _)) (call25 rfl ?_)
  iterate 16 (all_goals (try conv => whnf); all_goals (try first | with_reducible refine brY (by assumption) ?_ | with_reducible refine brN (by assumption) ?_ | (with_reducible refine brT ?_ ?_; · (simp only [Bool.and_eq_true, Bool.not_eq_true', decide_eq_true_eq, decide_eq_false_iff_not, beq_iff_eq, beq_eq_false_iff_ne, ne_eq] at *; omega)) | with_reducible refine br (fun _ => ?_) (fun _ => ?_) | with_reducible refine ⟨rfl, ?_⟩ | with_reducible refine ARound.succ ?_))
  all_goals refine leaf ?_ (.bool _)
  all_goals (simp only [letterI]; simp_all; try omega)
theorem letter_any (c : UInt8) : PCall Tryz.prog 25 [.int .u8 (c.toNat : Int)] (.bool (isLetter c)) := by
  rw [← letterI_eq]; exact letter_int _
def digI (m : Int) : Bool := decide (48 ≤ m) && decide (m ≤ 57)
theorem digI_eq (c : UInt8) : digI (c.toNat : Int) = isDigit c := by
  have : ∀ n : Fin 256, digI ((UInt8.ofNat n.val).toNat : Int) = isDigit (UInt8.ofNat n.val) := by decide +kernel
  have h := this ⟨c.toNat, UInt8.toNat_lt c⟩
  simpa using h
theorem digit_int (m : Int) : PCall Tryz.prog 27 [.int .u8 m] (.bool (digI m)) := by
  refine pcall_of (lits1 (.int _ _)) (call27 rfl ?_)
  iterate 16 (all_goals (try conv => whnf); all_goals (try first | with_reducible refine brY (by assumption) ?_ | with_reducible refine brN (by assumption) ?_ | (with_reducible refine brT ?_ ?_; · (simp only [Bool.and_eq_true, Bool.not_eq_true', decide_eq_true_eq, decide_eq_false_iff_not, beq_iff_eq, beq_eq_false_iff_ne, ne_eq] at *; omega)) | with_reducible refine br (fun _ => ?_) (fun _ => ?_) | with_reducible refine ⟨rfl, ?_⟩ | with_reducible refine ARound.succ ?_))
  all_goals refine leaf ?_ (.bool _)
  all_goals (simp only [digI]; simp_all; try omega)
theorem digit_any (c : UInt8) : PCall Tryz.prog 27 [.int .u8 (c.toNat : Int)] (.bool (isDigit c)) := by
  rw [← digI_eq]; exact digit_int _
def isWordC (c : UInt8) : Bool := isLetter c || isDigit c
theorem wordL_eq (s : List UInt8) : wordL s = if 32 < (s.takeWhile isWordC).length then .err 3 else .ok ⟨1, (s.takeWhile isWordC).map lowB, 0⟩ (s.takeWhile isWordC).length := rfl
theorem low_eq : Lib.lowerB = lowB := by
  funext c
  have : ∀ n : Fin 256, Lib.lowerB (UInt8.ofNat n.val) = lowB (UInt8.ofNat n.val) := by decide +kernel
  have h := this ⟨c.toNat, UInt8.toNat_lt c⟩
  simpa using h
theorem wordC_ascii : ∀ c : UInt8, isWordC c = true → c.toNat < 128 := by
  intro c hc
  have : ∀ n : Fin 256, isWordC (UInt8.ofNat n.val) = true → (UInt8.ofNat n.val).toNat < 128 := by decide +kernel
  have h := this ⟨c.toNat, UInt8.toNat_lt c⟩
  simp only [UInt8.ofNat_toNat] at h
  exact h hc
theorem word_any {s : List UInt8} (hs : s.length ≤ 100000) : PCall Tryz.prog 26 [.str s] (oneS (wordL s)) := by
  refine pcall_of (lits1 (.str _)) (call26 rfl ?_)
  have hle := takeWhile_le (p := isWordC) s
  iterate 4 (all_goals (try conv => whnf); all_goals (try first | with_reducible refine brY (by assumption) ?_ | with_reducible refine brN (by assumption) ?_ | (with_reducible refine brT ?_ ?_; · (simp only [Bool.and_eq_true, Bool.not_eq_true', decide_eq_true_eq, decide_eq_false_iff_not, beq_iff_eq, beq_eq_false_iff_ne, ne_eq] at *; omega)) | with_reducible refine br (fun _ => ?_) (fun _ => ?_) | with_reducible refine ⟨rfl, ?_⟩ | with_reducible refine ARound.succ ?_))
  refine loop_ind (σ := {i : Nat // i ≤ (s.takeWhile isWordC).length}) (fun x => [(0, SV.str s), (2, SV.ref 0 0 0 0), (3, SV.int IntKind.i64 0), (4, SV.int IntKind.i64 0), (5, SV.int IntKind.i64 x.1)])
    (fun _ => ⟨1, [(0, .vec 0 4 [tokP tnull] ⟨false, some 27⟩)]⟩) (fun x => s.length - x.1) ?_ ⟨0, by omega⟩
  rintro ⟨i, hi⟩
  dsimp only
  have e7 : IntKind.i64.wrap ((i : Int) + 1) = ((i + 1 : Nat) : Int) := w64add (by omega)
  have et := Int.toNat_natCast i
  have hex : i = (s.takeWhile isWordC).length → PCall Tryz.prog 50 [.str (List.take ((i : Int).toNat - Int.toNat 0) (List.drop (Int.toNat 0) s))] (.str ((s.takeWhile isWordC).map lowB)) := fun hW => by
    have e : List.take ((i : Int).toNat - Int.toNat 0) (List.drop (Int.toNat 0) s) = s.takeWhile isWordC := by
      rw [et, show Int.toNat 0 = 0 from rfl, List.drop_zero, Nat.sub_zero, hW, tw_take]
    have h := toLower_any (s := s.takeWhile isWordC) (by omega) fun c hc => wordC_ascii c (mem_takeWhile hc)
    rw [e, ← low_eq]
    exact h
  have fin1 : i = (s.takeWhile isWordC).length → decide ((32 : Int) < (i : Int)) = true → oneS (wordL s) = oneS (.err 3) := fun hW h => by
    rw [wordL_eq, if_pos (by have := of_decide_eq_true h; omega)]
  have fin2 : i = (s.takeWhile isWordC).length → decide ((32 : Int) < (i : Int)) = false → oneS (wordL s) = oneS (.ok ⟨1, (s.takeWhile isWordC).map lowB, 0⟩ i) := fun hW h => by
    rw [wordL_eq, if_neg (by have := of_decide_eq_false h; omega), ← hW]
  by_cases hil : i < s.length
  · have hd : decide ((i : Int) < (s.length : Int)) = true := decide_eq_true (by omega)
    have ht := tw_lt hi hil
    have hl := letter_any (s.getD (i : Int).toNat 0)
    have hg := digit_any (s.getD (i : Int).toNat 0)
    by_cases hw : isWordC (s.getD i 0) = true
    · have hi2 := ht.1 hw
      rw [← et] at hw
      iterate 12 (all_goals (try conv => whnf); all_goals (try first | with_reducible refine brY (by assumption) ?_ | with_reducible refine brN (by assumption) ?_ | (with_reducible refine brT ?_ ?_; · (simp only [Bool.and_eq_true, Bool.not_eq_true', decide_eq_true_eq, decide_eq_false_iff_not, beq_iff_eq, beq_eq_false_iff_ne, ne_eq] at *; omega)) | with_reducible refine br (fun _ => ?_) (fun _ => ?_) | with_reducible refine ⟨rfl, ?_⟩ | with_reducible refine ARound.succ ?_ | with_reducible refine PCall.call (hl) ?_ | with_reducible refine PCall.call (hg) ?_))
      all_goals first
        | exact ⟨⟨i + 1, hi2⟩, by dsimp only; omega, by rw [e7], rfl⟩
        | (exfalso; simp_all [isWordC]; done)
    · have hW : i = (s.takeWhile isWordC).length := by
        rcases Nat.lt_or_ge i (s.takeWhile isWordC).length with h | h
        · exact absurd (ht.2 h) hw
        · omega
      have cl := hex hW
      rw [← et] at hw
      iterate 20 (all_goals (try conv => whnf); all_goals (try first | with_reducible refine brY (by assumption) ?_ | with_reducible refine brN (by assumption) ?_ | (with_reducible refine brT ?_ ?_; · (simp only [Bool.and_eq_true, Bool.not_eq_true', decide_eq_true_eq, decide_eq_false_iff_not, beq_iff_eq, beq_eq_false_iff_ne, ne_eq] at *; omega)) | with_reducible refine br (fun _ => ?_) (fun _ => ?_) | with_reducible refine ⟨rfl, ?_⟩ | with_reducible refine ARound.succ ?_ | with_reducible refine PCall.call (hl) ?_ | with_reducible refine PCall.call (hg) ?_ | with_reducible refine PCall.call (cl) ?_))
      all_goals first
        | (refine leaf ?_ (oneS_lit _); first | (rw [fin1 hW (by assumption)]; rfl) | (rw [fin2 hW (by assumption)]; rfl))
        | (exfalso; simp_all [isWordC]; done)
  · have hd : decide ((i : Int) < (s.length : Int)) = false := decide_eq_false (by omega)
    have hW : i = (s.takeWhile isWordC).length := by omega
    have cl := hex hW
    iterate 20 (all_goals (try conv => whnf); all_goals (try first | with_reducible refine brY (by assumption) ?_ | with_reducible refine brN (by assumption) ?_ | (with_reducible refine brT ?_ ?_; · (simp only [Bool.and_eq_true, Bool.not_eq_true', decide_eq_true_eq, decide_eq_false_iff_not, beq_iff_eq, beq_eq_false_iff_ne, ne_eq] at *; omega)) | with_reducible refine br (fun _ => ?_) (fun _ => ?_) | with_reducible refine ⟨rfl, ?_⟩ | with_reducible refine ARound.succ ?_ | with_reducible refine PCall.call (cl) ?_))
    all_goals (refine leaf ?_ (oneS_lit _); first | (rw [fin1 hW (by assumption)]; rfl) | (rw [fin2 hW (by assumption)]; rfl))
theorem number_any {s : List UInt8} (hs : s.length ≤ 100000) (h0 : isDigit (s.getD 0 0) = true) (hne : s ≠ []) : PCall Tryz.prog 28 [.str s] (oneS (numberL s)) := by
  refine pcall_of (lits1 (.str _)) (call28 rfl ?_)
  have hle := takeWhile_le (p := isDigit) s
  have hw0 : s.takeWhile isDigit ≠ [] := by
    cases s with
    | nil => exact absurd rfl hne
    | cons a r => rw [List.takeWhile_cons, if_pos (show isDigit a = true from h0)]; simp
  have hp := parse_num hw0 fun c hc => mem_takeWhile hc
  have hneq : numberL s = if 9223372036854775808 < numOf (s.takeWhile isDigit) then .err 233 else .ok ⟨2, [], numOf (s.takeWhile isDigit)⟩ (s.takeWhile isDigit).length := rfl
  iterate 4 (all_goals (try conv => whnf); all_goals (try first | with_reducible refine brY (by assumption) ?_ | with_reducible refine brN (by assumption) ?_ | (with_reducible refine brT ?_ ?_; · (simp only [Bool.and_eq_true, Bool.not_eq_true', decide_eq_true_eq, decide_eq_false_iff_not, beq_iff_eq, beq_eq_false_iff_ne, ne_eq] at *; omega)) | with_reducible refine br (fun _ => ?_) (fun _ => ?_) | with_reducible refine ⟨rfl, ?_⟩ | with_reducible refine ARound.succ ?_))
  refine loop_ind (σ := {i : Nat // i ≤ (s.takeWhile isDigit).length}) (fun x => [(0, SV.str s), (2, SV.ref 0 0 0 0), (3, SV.int IntKind.i64 0), (4, SV.int IntKind.i64 0), (5, SV.int IntKind.i64 x.1)])
    (fun _ => ⟨1, [(0, .vec 0 4 [tokP tnull] ⟨false, some 27⟩)]⟩) (fun x => s.length - x.1) ?_ ⟨0, by omega⟩
  rintro ⟨i, hi⟩
  dsimp only
  have e7 : IntKind.i64.wrap ((i : Int) + 1) = ((i + 1 : Nat) : Int) := w64add (by omega)
  have et := Int.toNat_natCast i
  have e : i = (s.takeWhile isDigit).length → List.take ((i : Int).toNat - Int.toNat 0) (List.drop (Int.toNat 0) s) = s.takeWhile isDigit := fun hW => by
    rw [et, show Int.toNat 0 = 0 from rfl, List.drop_zero, Nat.sub_zero, hW, tw_take]
  have more : ∀ hW : i = (s.takeWhile isDigit).length, numOf (s.takeWhile isDigit) < 18446744073709551616 → PCall Tryz.prog 51 [.str (List.take ((i : Int).toNat - Int.toNat 0) (List.drop (Int.toNat 0) s)), .int .i64 10, .int .i64 64] (.tup [.int .u64 (numOf (s.takeWhile isDigit) : Nat), .nili]) := fun hW hlt => by
    rw [e hW]
    exact parse_ok (by omega) (by rw [hp, if_pos hlt])
  have less : ∀ hW : i = (s.takeWhile isDigit).length, ¬ numOf (s.takeWhile isDigit) < 18446744073709551616 → ∃ t, PCall Tryz.prog 51 [.str (List.take ((i : Int).toNat - Int.toNat 0) (List.drop (Int.toNat 0) s)), .int .i64 10, .int .i64 64] (.tup [.int .u64 18446744073709551615, .iface t .undef]) := fun hW hlt => by
    rw [e hW]
    exact parse_range (by omega) (by rw [hp, if_neg hlt])
  by_cases hil : i < s.length
  · have hd : decide ((i : Int) < (s.length : Int)) = true := decide_eq_true (by omega)
    have ht := tw_lt hi hil
    have hg := digit_any (s.getD (i : Int).toNat 0)
    by_cases hw : isDigit (s.getD i 0) = true
    · have hi2 := ht.1 hw
      rw [← et] at hw
      iterate 12 (all_goals (try conv => whnf); all_goals (try first | with_reducible refine brY (by assumption) ?_ | with_reducible refine brN (by assumption) ?_ | (with_reducible refine brT ?_ ?_; · (simp only [Bool.and_eq_true, Bool.not_eq_true', decide_eq_true_eq, decide_eq_false_iff_not, beq_iff_eq, beq_eq_false_iff_ne, ne_eq] at *; omega)) | with_reducible refine br (fun _ => ?_) (fun _ => ?_) | with_reducible refine ⟨rfl, ?_⟩ | with_reducible refine ARound.succ ?_ | with_reducible refine PCall.call (hg) ?_))
      exact ⟨⟨i + 1, hi2⟩, by dsimp only; omega, by rw [e7], rfl⟩
    · have hW : i = (s.takeWhile isDigit).length := by
        rcases Nat.lt_or_ge i (s.takeWhile isDigit).length with h | h
        · exact absurd (ht.2 h) hw
        · omega
      rw [← et] at hw
      have hw : isDigit (s.getD (i : Int).toNat 0) = false := by simpa using hw
      by_cases hlt : numOf (s.takeWhile isDigit) < 18446744073709551616
      · have cm := more hW hlt
        iterate 20 (all_goals (try conv => whnf); all_goals (try first | with_reducible refine brY (by assumption) ?_ | with_reducible refine brN (by assumption) ?_ | (with_reducible refine brT ?_ ?_; · (simp only [Bool.and_eq_true, Bool.not_eq_true', decide_eq_true_eq, decide_eq_false_iff_not, beq_iff_eq, beq_eq_false_iff_ne, ne_eq] at *; omega)) | with_reducible refine br (fun _ => ?_) (fun _ => ?_) | with_reducible refine ⟨rfl, ?_⟩ | with_reducible refine ARound.succ ?_ | with_reducible refine PCall.call (hg) ?_ | with_reducible refine PCall.call (cm) ?_))
        · have h := of_decide_eq_true (by assumption : decide ((9223372036854775808 : Int) < ((numOf (s.takeWhile isDigit) : Nat) : Int)) = true)
          exact leaf (by rw [hneq, if_pos (by omega)]; rfl) (oneS_lit _)
        · have h := of_decide_eq_false (by assumption : decide ((9223372036854775808 : Int) < ((numOf (s.takeWhile isDigit) : Nat) : Int)) = false)
          exact leaf (by rw [hneq, if_neg (by omega), ← hW]; rfl) (oneS_lit _)
      · obtain ⟨t, cm⟩ := less hW hlt
        iterate 20 (all_goals (try conv => whnf); all_goals (try first | with_reducible refine brY (by assumption) ?_ | with_reducible refine brN (by assumption) ?_ | (with_reducible refine brT ?_ ?_; · (simp only [Bool.and_eq_true, Bool.not_eq_true', decide_eq_true_eq, decide_eq_false_iff_not, beq_iff_eq, beq_eq_false_iff_ne, ne_eq] at *; omega)) | with_reducible refine br (fun _ => ?_) (fun _ => ?_) | with_reducible refine ⟨rfl, ?_⟩ | with_reducible refine ARound.succ ?_ | with_reducible refine PCall.call (hg) ?_ | with_reducible refine PCall.call (cm) ?_))
        exact leaf (by rw [hneq, if_pos (by omega)]; rfl) (oneS_lit _)
  · have hd : decide ((i : Int) < (s.length : Int)) = false := decide_eq_false (by omega)
    have hW : i = (s.takeWhile isDigit).length := by omega
    by_cases hlt : numOf (s.takeWhile isDigit) < 18446744073709551616
    · have cm := more hW hlt
      iterate 20 (all_goals (try conv => whnf); all_goals (try first | with_reducible refine brY (by assumption) ?_ | with_reducible refine brN (by assumption) ?_ | (with_reducible refine brT ?_ ?_; · (simp only [Bool.and_eq_true, Bool.not_eq_true', decide_eq_true_eq, decide_eq_false_iff_not, beq_iff_eq, beq_eq_false_iff_ne, ne_eq] at *; omega)) | with_reducible refine br (fun _ => ?_) (fun _ => ?_) | with_reducible refine ⟨rfl, ?_⟩ | with_reducible refine ARound.succ ?_ | with_reducible refine PCall.call (cm) ?_))
      · have h := of_decide_eq_true (by assumption : decide ((9223372036854775808 : Int) < ((numOf (s.takeWhile isDigit) : Nat) : Int)) = true)
        exact leaf (by rw [hneq, if_pos (by omega)]; rfl) (oneS_lit _)
      · have h := of_decide_eq_false (by assumption : decide ((9223372036854775808 : Int) < ((numOf (s.takeWhile isDigit) : Nat) : Int)) = false)
        exact leaf (by rw [hneq, if_neg (by omega), ← hW]; rfl) (oneS_lit _)
    · obtain ⟨t, cm⟩ := less hW hlt
      iterate 20 (all_goals (try conv => whnf); all_goals (try first | with_reducible refine brY (by assumption) ?_ | with_reducible refine brN (by assumption) ?_ | (with_reducible refine brT ?_ ?_; · (simp only [Bool.and_eq_true, Bool.not_eq_true', decide_eq_true_eq, decide_eq_false_iff_not, beq_iff_eq, beq_eq_false_iff_ne, ne_eq] at *; omega)) | with_reducible refine br (fun _ => ?_) (fun _ => ?_) | with_reducible refine ⟨rfl, ?_⟩ | with_reducible refine ARound.succ ?_ | with_reducible refine PCall.call (cm) ?_))
      exact leaf (by rw [hneq, if_pos (by omega)]; rfl) (oneS_lit _)
end Go.Proofs.YtlhpbcbkkbjhoaaGreatDoor
namespace Go.Proofs.YtlhpbcbkkbjhoaaGreatDoor
open Ab Go.RowKit
set_option maxRecDepth 100000
set_option linter.unusedVariables false
set_option linter.unusedSimpArgs false
set_option pp.maxSteps 3000
attribute [local irreducible] appendK
section
variable {m : Nat} {l : List (Nat × AObj)} {bi j g : Nat} {o : List UInt8} {R : AEnd → Heap → Prop}
theorem wb_app {c : UInt8} {x : Int} (hx : SV.int .u8 x = byS c) (hb : objL l bi = some (bldO 55 bi j g o.length)) (hj : objL l j = some (bufO 5 g o)) (hbm : bi < m) (hjm : j < m) (hne : bi ≠ j) (hl : ltH l m) (hlen : o.length + 1 ≤ 140737488355328)
    (hk : R (.ret .nili) ⟨m, bset 55 5 l bi j (g + 1) (o ++ [c])⟩) : ACall Tryz.prog 53 [.ref bi 0 0 0, .int .u8 x] ⟨m, l⟩ R := by
  refine ACall.cut (Nat.le_refl m) (call53 rfl ?_)
  have q1 : Nat.beq m bi = false := nbeq (by omega)
  have q2 : Nat.beq m j = false := nbeq (by omega)
  have q4 : (Nat.beq bi bi && Nat.beq 0 0 && (Nat.beq 0 0 && Nat.beq 0 0)) = true := by rw [nbeq_self]; rfl
  have q5 : objL (putO l j (.vec (g + 1) 1 (o.map byS ++ [SV.int .u8 x]) ⟨true, some 5⟩)) bi = some (bldO 55 bi j g o.length) := by rw [objL_put_ne hne]; exact hb
  iterate 40 (all_goals (try conv => whnf); all_goals (try first | with_reducible refine brY (by assumption) ?_ | with_reducible refine brN (by assumption) ?_ | (with_reducible refine brT ?_ ?_; · (simp only [Bool.and_eq_true, Bool.not_eq_true', decide_eq_true_eq, decide_eq_false_iff_not, beq_iff_eq, beq_eq_false_iff_ne, ne_eq] at *; omega)) | with_reducible refine br (fun _ => ?_) (fun _ => ?_) | with_reducible refine ⟨rfl, ?_⟩ | with_reducible refine ARound.succ ?_ | (refine call61 rfl ?_) | (with_reducible refine lookO_run hb ?_) | (with_reducible refine lookO_run hj ?_) | (with_reducible refine lookO_run q5 ?_) | (refine append_one hj hjm rfl hlen ?_) | (with_reducible refine setO_run ?_)))
  have e : putO (putO l j (.vec (g + 1) 1 (o.map byS ++ [SV.int .u8 x]) ⟨true, some 5⟩)) bi (.vec 0 2 [.agg [.ref bi 0 0 0, .sl j (g + 1) 1 0 (o.length + 1) none]] ⟨false, some 55⟩) = bset 55 5 l bi j (g + 1) (o ++ [c]) := by
    unfold bset; rw [hx, List.length_append, bufO, List.map_append]; rfl
  rw [e]
  exact ⟨_, fun i ob h => ⟨sub_skip (ltH_bset hl hbm hjm hne i ob h).1 h, ltH_bset hl hbm hjm hne i ob h⟩, .nili, hk⟩
theorem ws_app {s : List UInt8} (hb : objL l bi = some (bldO 55 bi j g o.length)) (hj : objL l j = some (bufO 5 g o)) (hbm : bi < m) (hjm : j < m) (hne : bi ≠ j) (hl : ltH l m) (hlen : o.length + s.length ≤ 140737488355328)
    (hk : ∀ g', R (.ret (.tup [.int .i64 s.length, .nili])) ⟨m, bset 55 5 l bi j g' (o ++ s)⟩) : ACall Tryz.prog 43 [.ref bi 0 0 0, .str s] ⟨m, l⟩ R := by
  refine ACall.cut (Nat.le_refl m) (call43 rfl ?_)
  have q4 : (Nat.beq bi bi && Nat.beq 0 0 && (Nat.beq 0 0 && Nat.beq 0 0)) = true := by rw [nbeq_self]; rfl
  have lit : LitEnd (.ret (.tup [.int .i64 s.length, .nili])) := lit2 (.int _ _) .nili
  by_cases h0 : s = []
  · subst h0
    iterate 40 (all_goals (try conv => whnf); all_goals (try first | with_reducible refine brY (by assumption) ?_ | with_reducible refine brN (by assumption) ?_ | (with_reducible refine brT ?_ ?_; · (simp only [Bool.and_eq_true, Bool.not_eq_true', decide_eq_true_eq, decide_eq_false_iff_not, beq_iff_eq, beq_eq_false_iff_ne, ne_eq] at *; omega)) | with_reducible refine br (fun _ => ?_) (fun _ => ?_) | with_reducible refine ⟨rfl, ?_⟩ | with_reducible refine ARound.succ ?_ | (refine call61 rfl ?_) | (with_reducible refine lookO_run hb ?_) | (with_reducible refine lookO_run hj ?_) | (refine append_noneS (elems_str []) hj ?_) | (with_reducible refine setO_run ?_)))
    have e : putO l bi (bldO 55 bi j g o.length) = bset 55 5 l bi j g (o ++ []) := by
      unfold bset; rw [List.append_nil, putO_self hj]
    refine ⟨bset 55 5 l bi j g (o ++ []), fun i ob h => ⟨?_, ltH_bset hl hbm hjm hne i ob h⟩, lit, hk g⟩
    rw [← e] at h
    exact h
  · have hpos : 0 < s.length := by cases s with | nil => exact absurd rfl h0 | cons c r => simp
    have q5 : objL (putO l j (.vec (g + 1) 1 (o.map byS ++ s.map byS) ⟨true, some 5⟩)) bi = some (bldO 55 bi j g o.length) := by rw [objL_put_ne hne]; exact hb
    iterate 40 (all_goals (try conv => whnf); all_goals (try first | with_reducible refine brY (by assumption) ?_ | with_reducible refine brN (by assumption) ?_ | (with_reducible refine brT ?_ ?_; · (simp only [Bool.and_eq_true, Bool.not_eq_true', decide_eq_true_eq, decide_eq_false_iff_not, beq_iff_eq, beq_eq_false_iff_ne, ne_eq] at *; omega)) | with_reducible refine br (fun _ => ?_) (fun _ => ?_) | with_reducible refine ⟨rfl, ?_⟩ | with_reducible refine ARound.succ ?_ | (refine call61 rfl ?_) | (with_reducible refine lookO_run hb ?_) | (with_reducible refine lookO_run hj ?_) | (with_reducible refine lookO_run q5 ?_) | (refine append_str hj hpos hlen ?_) | (with_reducible refine setO_run ?_)))
    have e : putO (putO l j (.vec (g + 1) 1 (o.map byS ++ s.map byS) ⟨true, some 5⟩)) bi (.vec 0 2 [.agg [.ref bi 0 0 0, .sl j (g + 1) 1 0 (o.length + s.length) none]] ⟨false, some 55⟩) = bset 55 5 l bi j (g + 1) (o ++ s) := by
      unfold bset; rw [List.length_append, bufO, List.map_append]
    refine ⟨bset 55 5 l bi j (g + 1) (o ++ s), fun i ob h => ⟨?_, ltH_bset hl hbm hjm hne i ob h⟩, lit, hk _⟩
    rw [← e] at h
    exact h
theorem bs_str (hb : objL l bi = some (bldO 55 bi j g o.length)) (hj : objL l j = some (bufO 5 g o)) (h0 : 0 < o.length) (hlen : o.length ≤ 9223372036854775807)
    (hk : ∀ l', R (.ret (.str o)) ⟨m, l'⟩) : ACall Tryz.prog 44 [.ref bi 0 0 0] ⟨m, l⟩ R := by
  refine call44 rfl ?_
  have q1 : Nat.blt 0 o.length = true := by rw [Nat.blt, Nat.ble_eq]; exact h0
  have q2 : (Nat.beq g g && (Nat.beq 0 0 && Nat.beq 0 0) && (Nat.beq 1 1 && tyIs (Sk.ty ⟨true, some 5⟩) 5) && (decide (0 < (o.length : Int)) && decide ((o.length : Int) ≤ 9223372036854775807))) = true := by
    rw [nbeq_self, decide_eq_true (show 0 < (o.length : Int) by omega), decide_eq_true (show (o.length : Int) ≤ 9223372036854775807 by omega)]; rfl
  have q3 : Nat.beq g g = true := nbeq_self g
  have q4 : Nat.beq j j = true := nbeq_self j
  iterate 40 (all_goals (try conv => whnf); all_goals (try first | with_reducible refine brY (by assumption) ?_ | with_reducible refine brN (by assumption) ?_ | (with_reducible refine brT ?_ ?_; · (simp only [Bool.and_eq_true, Bool.not_eq_true', decide_eq_true_eq, decide_eq_false_iff_not, beq_iff_eq, beq_eq_false_iff_ne, ne_eq] at *; omega)) | with_reducible refine br (fun _ => ?_) (fun _ => ?_) | with_reducible refine ⟨rfl, ?_⟩ | with_reducible refine ARound.succ ?_ | (with_reducible refine lookO_run hb ?_) | (with_reducible refine lookO_run hj ?_) | (refine takeN_all (by simp) ?_) | (refine bytesK_run ?_) | (with_reducible refine setO_run ?_)))
  exact hk _
end
theorem bs_empty {R : AEnd → Heap → Prop} (hk : R (.ret (.str [])) ⟨1, [(0, .vec 0 2 [.agg [.nilp, .nils]] ⟨false, some 55⟩)]⟩) :
    ACall Tryz.prog 44 [.ref 0 0 0 0] ⟨1, [(0, .vec 0 2 [.agg [.nilp, .nils]] ⟨false, some 55⟩)]⟩ R := by
  refine call44 rfl ?_
  iterate 20 (all_goals (try conv => whnf); all_goals (try first | with_reducible refine brY (by assumption) ?_ | with_reducible refine brN (by assumption) ?_ | (with_reducible refine brT ?_ ?_; · (simp only [Bool.and_eq_true, Bool.not_eq_true', decide_eq_true_eq, decide_eq_false_iff_not, beq_iff_eq, beq_eq_false_iff_ne, ne_eq] at *; omega)) | with_reducible refine br (fun _ => ?_) (fun _ => ?_) | with_reducible refine ⟨rfl, ?_⟩ | with_reducible refine ARound.succ ?_))
  exact hk
end Go.Proofs.YtlhpbcbkkbjhoaaGreatDoor
namespace Go.Proofs.YtlhpbcbkkbjhoaaGreatDoor
open Go.Lib
theorem decodeL_q (r : List UInt8) : decodeL (39 :: r) = (39, 1) := decodeL_ascii 39 r (by decide)
theorem decode39 {c : UInt8} {r : List UInt8} (h : c ≠ 39) : (decodeL (c :: r)).1 ≠ 39 := by
  by_cases hc : c.toNat < 128
  · rw [decodeL_ascii c r hc]
    intro e
    exact h (UInt8.toNat_inj.1 e)
  · rw [decodeL_N]
    simp only [List.getD_cons_zero]
    unfold decodeN
    repeat' split
    all_goals (dsimp only; omega)
theorem decode_pos (s : List UInt8) (pos : Nat) : Utf8.decode ⟨s.toArray⟩ pos = decodeL (s.drop pos) := by
  have := decodeL_drop ⟨s.toArray⟩ pos
  rw [← this]
theorem drop_cons {s : List UInt8} {pos : Nat} (h : pos < s.length) : s.drop pos = s.getD pos 0 :: s.drop (pos + 1) := by
  rw [List.drop_eq_getElem_cons h]
  simp [List.getD, h]
theorem textGo_char {f i : Nat} {l buf : List UInt8} {bad : Bool} (hne : l ≠ []) (h : l.getD 0 0 ≠ 39) :
    textGo (f + 1) l i bad buf = textGo f (l.drop (decodeL l).2) (i + (decodeL l).2) (bad || ((decodeL l).1 == 65533 && (decodeL l).2 == 1)) (buf ++ l.take (decodeL l).2) := by
  cases l with
  | nil => exact absurd rfl hne
  | cons c r => rw [textGo, if_pos (show c ≠ 39 from h)]
theorem textGo_two {f i : Nat} {l buf : List UInt8} {bad : Bool} (h0 : l.getD 0 0 = 39) (h1 : l.getD 1 0 = 39) : textGo (f + 1) l i bad buf = textGo f (l.drop 2) (i + 2) bad (buf ++ [39]) := by
  cases l with
  | nil => exact absurd h0 (by decide)
  | cons c r =>
    rw [textGo, if_neg (by simpa using h0), if_pos (show r.getD 0 0 = 39 from h1)]
    rfl
theorem textGo_end {f i : Nat} {l buf : List UInt8} {bad : Bool} (h0 : l.getD 0 0 = 39) (h1 : l.getD 1 0 ≠ 39) : textGo (f + 1) l i bad buf = if bad then .err 232 else if 64 < buf.length then .err 3 else .ok ⟨3, buf, 0⟩ (i + 1) := by
  cases l with
  | nil => exact absurd h0 (by decide)
  | cons c r => rw [textGo, if_neg (by simpa using h0), if_neg (show ¬ r.getD 0 0 = 39 from h1)]
theorem textGo_nil (f i : Nat) (bad : Bool) (buf : List UInt8) : textGo f [] i bad buf = .err 231 := by cases f <;> rfl
theorem qq_iff {l : List UInt8} : ([39, 39] : List UInt8).isPrefixOf l = true ↔ l.getD 0 0 = 39 ∧ l.getD 1 0 = 39 := by
  match l with
  | [] => simp [List.isPrefixOf]
  | [a] => simp [List.isPrefixOf]
  | a :: b :: r =>
    show ((39 : UInt8) == a && ((39 : UInt8) == b && true)) = true ↔ a = 39 ∧ b = 39
    simp only [Bool.and_eq_true, beq_iff_eq, and_true]
    exact ⟨fun h => ⟨h.1.symm, h.2.symm⟩, fun h => ⟨h.1.symm, h.2.symm⟩⟩
theorem getD_drop (s : List UInt8) (p j : Nat) : (s.drop p).getD j 0 = s.getD (p + j) 0 := by
  simp [List.getD, List.getElem?_drop]
theorem int_beq (a b : Nat) : ((a : Int) == (b : Int)) = (a == b) := by
  rw [Bool.eq_iff_iff]; simp; omega
end Go.Proofs.YtlhpbcbkkbjhoaaGreatDoor
namespace Go.Proofs.YtlhpbcbkkbjhoaaGreatDoor
open Ab Go.RowKit Go.Lib
set_option maxRecDepth 100000
set_option linter.unusedVariables false
set_option linter.unusedSimpArgs false
set_option maxHeartbeats 4000000
set_option pp.maxSteps 3000
attribute [local irreducible] appendK allLtK Utf8.decode
theorem lt_by {n : Nat} {s : List UInt8} : ∀ v ∈ s.map byS, SV.lt 8 n v = true := by
  intro v hv
  obtain ⟨b, _, rfl⟩ := List.mem_map.1 hv
  rfl
theorem lt_one {n : Nat} {u : SV} (h : SV.lt 8 n u = true) : ∀ v ∈ [u], SV.lt 8 n v = true := by
  intro v hv
  simp only [List.mem_singleton] at hv
  subst hv
  exact h
structure TxI (s : List UInt8) (pos : Nat) (buf : List UInt8) (bad dbl : Bool) : Prop where
  p1 : 1 < pos
  pl : pos ≤ s.length
  b0 : 0 < buf.length
  bl : buf.length ≤ pos
  go : dbl = false → ∃ f, (s.drop pos).length ≤ f ∧ textL s = textGo f (s.drop pos) pos bad buf
  go2 : dbl = true → pos < s.length ∧ s.getD pos 0 = 39 ∧ ∃ f, (s.drop (pos + 1)).length ≤ f ∧ textL s = textGo f (s.drop (pos + 1)) (pos + 1) bad buf
inductive TxS (s : List UInt8) where
  | A
  | B
  | C (fb : Bool) (pos g : Nat) (buf : List UInt8) (bad dbl : Bool) (h : TxI s pos buf bad dbl)
@[reducible] def bldE : AObj := .vec 0 2 [.agg [.nilp, .nils]] ⟨false, some 55⟩
@[reducible] def tok0 : AObj := .vec 0 4 [tokP tnull] ⟨false, some 27⟩
@[reducible] def TxS.env {s : List UInt8} : TxS s → Env
  | .A => [(0, SV.str s), (2, SV.ref 0 0 0 0), (3, SV.int IntKind.i64 0), (4, SV.int IntKind.i64 0), (5, SV.ref 1 0 0 0), (6, SV.bool false), (7, SV.bool false), (13, SV.ref 2 0 0 0)]
  | .B => [(0, SV.str s), (2, SV.ref 0 0 0 0), (3, SV.int IntKind.i64 0), (4, SV.int IntKind.i64 0), (5, SV.ref 1 0 0 0), (6, SV.bool false), (7, SV.bool false), (13, SV.ref 2 0 0 0)]
  | .C _ pos g buf bad dbl _ => [(0, SV.str s), (2, SV.ref 0 0 0 0), (3, SV.int IntKind.i64 0), (4, SV.int IntKind.i64 0), (5, SV.ref 1 0 0 0), (6, SV.bool bad), (7, SV.bool dbl), (13, SV.ref 2 0 0 0)]
@[reducible] def TxS.hp {s : List UInt8} : TxS s → Heap
  | .A => ⟨3, [(2, .iter s 0), (1, bldE), (0, tok0)]⟩
  | .B => ⟨3, [(2, .iter s 1), (1, bldE), (0, tok0)]⟩
  | .C false pos g buf bad dbl _ => ⟨4, [(3, bufO 5 g buf), (2, .iter s pos), (1, bldO 55 1 3 g buf.length), (0, tok0)]⟩
  | .C true pos g buf bad dbl _ => ⟨5, [(4, bufO 5 g buf), (3, .vec 0 1 [byS 39] ⟨false, some 5⟩), (2, .iter s pos), (1, bldO 55 1 4 g buf.length), (0, tok0)]⟩
def TxS.mu {s : List UInt8} : TxS s → Nat
  | .A => s.length + 2
  | .B => s.length + 1
  | .C _ pos _ _ _ _ _ => s.length - pos
def TxS.nn {s : List UInt8} : TxS s → Nat
  | .A => 3
  | .B => if s.getD 1 0 = 39 then 5 else 4
  | .C false .. => 4
  | .C true .. => 5
theorem take_pre {p l : List UInt8} (h : p.length ≤ l.length) : (l.take p.length == p) = p.isPrefixOf l := by
  rw [Bool.eq_iff_iff, beq_iff_eq, List.isPrefixOf_iff_prefix, List.prefix_iff_eq_take]
  exact ⟨fun h => h.symm, fun h => h.symm⟩
theorem hasPrefix_any {l p : List UInt8} (hp : p.length ≤ 1000000) : PCall Tryz.prog 31 [.str l, .str p] (.bool (p.isPrefixOf l)) := by
  have h1 : PCall Tryz.prog 55 [.str l, .str p] (.bool (p.isPrefixOf l)) := by
    refine pcall_of (lits2 (.str _) (.str _)) (call55 rfl ?_)
    by_cases h : p.length ≤ l.length
    · have hd : decide ((p.length : Int) ≤ (l.length : Int)) = true := decide_eq_true (by omega)
      iterate 12 (all_goals (try conv => whnf); all_goals (try first | with_reducible refine brY (by assumption) ?_ | with_reducible refine brN (by assumption) ?_ | (with_reducible refine brT ?_ ?_; · (simp only [Bool.and_eq_true, Bool.not_eq_true', decide_eq_true_eq, decide_eq_false_iff_not, beq_iff_eq, beq_eq_false_iff_ne, ne_eq] at *; omega)) | with_reducible refine br (fun _ => ?_) (fun _ => ?_) | with_reducible refine ⟨rfl, ?_⟩ | with_reducible refine ARound.succ ?_))
      refine leaf ?_ (.bool _)
      rw [Int.toNat_natCast, show Int.toNat 0 = 0 from rfl, List.drop_zero, Nat.sub_zero, take_pre h]
    · have hd : decide ((p.length : Int) ≤ (l.length : Int)) = false := decide_eq_false (by omega)
      iterate 12 (all_goals (try conv => whnf); all_goals (try first | with_reducible refine brY (by assumption) ?_ | with_reducible refine brN (by assumption) ?_ | (with_reducible refine brT ?_ ?_; · (simp only [Bool.and_eq_true, Bool.not_eq_true', decide_eq_true_eq, decide_eq_false_iff_not, beq_iff_eq, beq_eq_false_iff_ne, ne_eq] at *; omega)) | with_reducible refine br (fun _ => ?_) (fun _ => ?_) | with_reducible refine ⟨rfl, ?_⟩ | with_reducible refine ARound.succ ?_))
      refine leaf ?_ (.bool _)
      have : p.isPrefixOf l = false := by
        rw [Bool.eq_false_iff, ne_eq, List.isPrefixOf_iff_prefix]
        exact fun h' => h h'.length_le
      rw [this]
  refine pcall_of (lits2 (.str _) (.str _)) (call31 rfl ?_)
  iterate 4 (all_goals (try conv => whnf); all_goals (try first | with_reducible refine brY (by assumption) ?_ | with_reducible refine brN (by assumption) ?_ | (with_reducible refine brT ?_ ?_; · (simp only [Bool.and_eq_true, Bool.not_eq_true', decide_eq_true_eq, decide_eq_false_iff_not, beq_iff_eq, beq_eq_false_iff_ne, ne_eq] at *; omega)) | with_reducible refine br (fun _ => ?_) (fun _ => ?_) | with_reducible refine ⟨rfl, ?_⟩ | with_reducible refine ARound.succ ?_ | with_reducible refine PCall.call (h1) ?_))
  exact leaf rfl (.bool _)
theorem cut_from {s : List UInt8} {pos : Nat} : List.take (((s.length : Nat) : Int).toNat - ((pos : Nat) : Int).toNat) (List.drop ((pos : Nat) : Int).toNat s) = s.drop pos := by
  rw [Int.toNat_natCast, Int.toNat_natCast, List.take_of_length_le (by rw [List.length_drop]; omega)]
theorem cut_to {s : List UInt8} {pos w : Nat} (h : pos + w ≤ 1000000) : List.take ((IntKind.i64.wrap ((pos : Int) + (w : Int))).toNat - ((pos : Nat) : Int).toNat) (List.drop ((pos : Nat) : Int).toNat s) = (s.drop pos).take w := by
  rw [w64 (by omega) (by omega), Int.toNat_natCast, show ((pos : Int) + (w : Int)).toNat = pos + w by omega, Nat.add_sub_cancel_left]
theorem decode_from {s : List UInt8} {pos : Nat} (h : pos < s.length) : PCall Tryz.prog 52 [.str (List.take (((s.length : Nat) : Int).toNat - ((pos : Nat) : Int).toNat) (List.drop ((pos : Nat) : Int).toNat s))] (.tup [.int .i32 ((Utf8.decode ⟨s.toArray⟩ pos).1 : Nat), .int .i64 ((Utf8.decode ⟨s.toArray⟩ pos).2 : Nat)]) := by
  have e : Lib.decodeGo ⟨(s.drop pos).toArray⟩ = Utf8.decode ⟨s.toArray⟩ pos := by
    unfold Lib.decodeGo
    rw [if_neg (by simp only [ByteArray.size, List.size_toArray, List.length_drop]; omega), decode_pos, decode_pos, List.drop_zero]
  rw [cut_from, ← e]
  exact decode_any _
theorem prefix_from {s : List UInt8} {pos : Nat} : PCall Tryz.prog 31 [.str (List.take (((s.length : Nat) : Int).toNat - ((pos : Nat) : Int).toNat) (List.drop ((pos : Nat) : Int).toNat s)), .str [39, 39]] (.bool (([39, 39] : List UInt8).isPrefixOf (s.drop pos))) := by
  rw [cut_from]
  exact hasPrefix_any (by decide)
theorem ws_first {s t : List UInt8} {p : Nat} (h0 : 0 < t.length) (ht : t.length ≤ 1000000) {R : AEnd → Heap → Prop}
    (hk : R (.ret (.tup [.int .i64 t.length, .nili])) ⟨4, [(3, bufO 5 0 t), (2, .iter s p), (1, bldO 55 1 3 0 t.length), (0, tok0)]⟩) :
    ACall Tryz.prog 43 [.ref 1 0 0 0, .str t] ⟨3, [(2, .iter s p), (1, bldE), (0, tok0)]⟩ R := by
  refine call43 rfl ?_
  iterate 10 (all_goals (try conv => whnf); all_goals (try first | with_reducible refine brY (by assumption) ?_ | with_reducible refine brN (by assumption) ?_ | (with_reducible refine brT ?_ ?_; · (simp only [Bool.and_eq_true, Bool.not_eq_true', decide_eq_true_eq, decide_eq_false_iff_not, beq_iff_eq, beq_eq_false_iff_ne, ne_eq] at *; omega)) | with_reducible refine br (fun _ => ?_) (fun _ => ?_) | with_reducible refine ⟨rfl, ?_⟩ | with_reducible refine ARound.succ ?_ | (refine call61 rfl ?_) | (refine append_new (elems_str _) (by simpa using h0) (allOnes_by _) (by simp; omega) (by simp; omega) ?_)))
  rw [List.length_map]
  exact hk
theorem bs_str2 {m : Nat} {l : List (Nat × AObj)} {bi j g : Nat} {o : List UInt8} {R : AEnd → Heap → Prop} (hb : objL l bi = some (bldO 55 bi j g o.length)) (hj : objL l j = some (bufO 5 g o)) (h0 : 0 < o.length) (hlen : o.length ≤ 9223372036854775807)
    (hk : R (.ret (.str o)) ⟨m, putO l j (.fro g 5 (o.map byS))⟩) : ACall Tryz.prog 44 [.ref bi 0 0 0] ⟨m, l⟩ R := by
  refine call44 rfl ?_
  have q1 : Nat.blt 0 o.length = true := by rw [Nat.blt, Nat.ble_eq]; exact h0
  have q2 : (Nat.beq g g && (Nat.beq 0 0 && Nat.beq 0 0) && (Nat.beq 1 1 && tyIs (Sk.ty ⟨true, some 5⟩) 5) && (decide (0 < (o.length : Int)) && decide ((o.length : Int) ≤ 9223372036854775807))) = true := by
    rw [nbeq_self, decide_eq_true (show 0 < (o.length : Int) by omega), decide_eq_true (show (o.length : Int) ≤ 9223372036854775807 by omega)]; rfl
  have q3 : Nat.beq g g = true := nbeq_self g
  have q4 : Nat.beq j j = true := nbeq_self j
  iterate 40 (all_goals (try conv => whnf); all_goals (try first | with_reducible refine brY (by assumption) ?_ | with_reducible refine brN (by assumption) ?_ | (with_reducible refine brT ?_ ?_; · (simp only [Bool.and_eq_true, Bool.not_eq_true', decide_eq_true_eq, decide_eq_false_iff_not, beq_iff_eq, beq_eq_false_iff_ne, ne_eq] at *; omega)) | with_reducible refine br (fun _ => ?_) (fun _ => ?_) | with_reducible refine ⟨rfl, ?_⟩ | with_reducible refine ARound.succ ?_ | (with_reducible refine lookO_run hb ?_) | (with_reducible refine lookO_run hj ?_) | (refine takeN_all (by simp) ?_) | (refine bytesK_run ?_) | (with_reducible refine setO_run ?_)))
  exact hk
theorem ltHF {s : List UInt8} {p g n : Nat} {buf : List UInt8} : ltH [(3, bufO 5 g buf), (2, .iter s p), (1, bldO 55 1 3 g n), (0, tok0)] 4 := by
  intro i ob h
  unfold objL at h
  split at h
  · cases h; rename_i h; subst h; exact ⟨by omega, objLt_by⟩
  unfold objL at h
  split at h
  · cases h; rename_i h; subst h; exact ⟨by omega, trivial⟩
  unfold objL at h
  split at h
  · cases h; rename_i h; subst h; exact ⟨by omega, fun v hv => by simp only [List.mem_singleton] at hv; subst hv; rfl⟩
  unfold objL at h
  split at h
  · cases h; rename_i h; subst h; exact ⟨by omega, fun v hv => by simp only [List.mem_singleton] at hv; subst hv; rfl⟩
  · cases h
theorem ltHT {s : List UInt8} {p g n : Nat} {buf : List UInt8} : ltH [(4, bufO 5 g buf), (3, .vec 0 1 [byS 39] ⟨false, some 5⟩), (2, .iter s p), (1, bldO 55 1 4 g n), (0, tok0)] 5 := by
  intro i ob h
  unfold objL at h
  split at h
  · cases h; rename_i h; subst h; exact ⟨by omega, objLt_by⟩
  unfold objL at h
  split at h
  · cases h; rename_i h; subst h; exact ⟨by omega, fun v hv => by simp only [List.mem_singleton] at hv; subst hv; rfl⟩
  unfold objL at h
  split at h
  · cases h; rename_i h; subst h; exact ⟨by omega, trivial⟩
  unfold objL at h
  split at h
  · cases h; rename_i h; subst h; exact ⟨by omega, fun v hv => by simp only [List.mem_singleton] at hv; subst hv; rfl⟩
  unfold objL at h
  split at h
  · cases h; rename_i h; subst h; exact ⟨by omega, fun v hv => by simp only [List.mem_singleton] at hv; subst hv; rfl⟩
  · cases h
theorem text_any {s : List UInt8} (hs : s.length ≤ 100000) (hq : s.getD 0 0 = 39) (hne : s ≠ []) : PCall Tryz.prog 29 [.str s] (oneS (textL s)) := by
  refine pcall_of (lits1 (.str _)) (call29 rfl ?_)
  have hpos : 0 < s.length := by cases s with | nil => exact absurd rfl hne | cons c r => simp
  have start : textL s = textGo s.length (s.drop 1) 1 false [] := rfl
  iterate 8 (all_goals (try conv => whnf); all_goals (try first | with_reducible refine brY (by assumption) ?_ | with_reducible refine brN (by assumption) ?_ | (with_reducible refine brT ?_ ?_; · (simp only [Bool.and_eq_true, Bool.not_eq_true', decide_eq_true_eq, decide_eq_false_iff_not, beq_iff_eq, beq_eq_false_iff_ne, ne_eq] at *; omega)) | with_reducible refine br (fun _ => ?_) (fun _ => ?_) | with_reducible refine ⟨rfl, ?_⟩ | with_reducible refine ARound.succ ?_))
  refine loop_any (σ := TxS s) TxS.env TxS.hp TxS.mu TxS.nn (fun x => match x with | .A => Nat.le_refl 3 | .B => (by show 3 ≤ if s.getD 1 0 = 39 then 5 else 4; split <;> decide) | .C false .. => Nat.le_refl 4 | .C true .. => Nat.le_refl 5) ?_ .A
  rintro (_ | _ | ⟨fb, pos, g, buf, bad, dbl, hI⟩)
  · have hd0 : Utf8.decode ⟨s.toArray⟩ 0 = (39, 1) := by
      rw [decode_pos, List.drop_zero]
      cases s with
      | nil => exact absurd rfl hne
      | cons c r => obtain rfl : c = 39 := hq; exact decodeL_q r
    have hb : Nat.blt 0 s.length = true := by rw [Nat.blt, Nat.ble_eq]; exact hpos
    iterate 16 (all_goals (try conv => whnf); all_goals (try first | with_reducible refine brY (by assumption) ?_ | with_reducible refine brN (by assumption) ?_ | (with_reducible refine brT ?_ ?_; · (simp only [Bool.and_eq_true, Bool.not_eq_true', decide_eq_true_eq, decide_eq_false_iff_not, beq_iff_eq, beq_eq_false_iff_ne, ne_eq] at *; omega)) | with_reducible refine br (fun _ => ?_) (fun _ => ?_) | with_reducible refine ⟨rfl, ?_⟩ | with_reducible refine ARound.succ ?_))
    exact ⟨.B, by simp [TxS.mu], rfl, by rw [hd0]; rfl⟩
  · by_cases hl : 1 < s.length
    · have hd1 := decode_pos s 1
      have hb : Nat.blt 1 s.length = true := by rw [Nat.blt, Nat.ble_eq]; exact hl
      have hc1 := drop_cons hl
      have cd := decode_from hl
      have cp := prefix_from (s := s) (pos := 1)
      have hb0 : (((1 : Nat) : Int) == 0) = false := rfl
      have hdl : (s.drop 1).length = s.length - 1 := List.length_drop
      by_cases hc : s.getD 1 0 = 39
      · rw [show TxS.nn (TxS.B : TxS s) = 5 from if_pos hc]
        have hD : Utf8.decode ⟨s.toArray⟩ 1 = (39, 1) := by rw [hd1, hc1, hc, decodeL_q]
        have hR : (((Utf8.decode ⟨s.toArray⟩ 1).1 : Int) != 39) = false := by rw [hD]; rfl
        iterate 40 (all_goals (try conv => whnf); all_goals (try first | with_reducible refine brY (by assumption) ?_ | with_reducible refine brN (by assumption) ?_ | (with_reducible refine brT ?_ ?_; · (simp only [Bool.and_eq_true, Bool.not_eq_true', decide_eq_true_eq, decide_eq_false_iff_not, beq_iff_eq, beq_eq_false_iff_ne, ne_eq] at *; omega)) | with_reducible refine br (fun _ => ?_) (fun _ => ?_) | with_reducible refine ⟨rfl, ?_⟩ | with_reducible refine ARound.succ ?_ | with_reducible refine PCall.call (cd) ?_ | with_reducible refine PCall.call (cp) ?_ | (refine call53 rfl ?_) | (refine call61 rfl ?_) | (refine append_new (xs := [byS 39]) (elems_all objL_hd rfl) (by decide) rfl (by decide) (by decide) ?_) | (refine call54 rfl ?_) | (refine call44 rfl ?_) | (refine allLtK_of lt_by ?_) | (refine allLtK_of (lt_one rfl) ?_)))
        · have hpre := List.isPrefixOf_iff_prefix.1 (by assumption : ([39, 39] : List UInt8).isPrefixOf (s.drop 1) = true)
          have hl2 : 2 < s.length := by have := hpre.length_le; simp only [List.length_cons, List.length_nil] at this; omega
          have hq2 : s.getD 2 0 = 39 := by
            obtain ⟨t, ht⟩ := hpre
            have : (s.drop 1).getD 1 0 = 39 := by rw [← ht]; rfl
            simpa [List.getD, List.getElem?_drop] using this
          refine ⟨.C true 2 0 [39] false true ⟨by omega, by omega, by simp, by simp, fun h => (by cases h), fun _ => ⟨hl2, hq2, s.length - 1, by rw [List.length_drop]; omega, ?_⟩⟩, by simp only [TxS.mu]; omega, rfl, by rw [hD]; rfl⟩
          obtain ⟨f, hf⟩ : ∃ f, s.length = f + 1 := ⟨s.length - 1, by omega⟩
          rw [start, hf, hc1, hc, textGo, if_neg (by simp), drop_cons hl2, if_pos (by exact hq2)]
          rfl
        · have hnp := (by assumption : ([39, 39] : List UInt8).isPrefixOf (s.drop 1) = false)
          refine leaf ?_ (oneS_lit _)
          obtain ⟨f, hf⟩ : ∃ f, s.length = f + 1 := ⟨s.length - 1, by omega⟩
          have hn2 : ¬ (s.drop 2).getD 0 0 = 39 := fun h => by
            rw [hc1, hc] at hnp
            cases he : s.drop 2 with
            | nil => rw [he] at h; exact absurd h (by decide)
            | cons a r =>
              rw [he] at h
              obtain rfl : a = 39 := h
              rw [he] at hnp
              simp [List.isPrefixOf] at hnp
          rw [start, hf, hc1, hc, textGo, if_neg (by simp), if_neg hn2]
          rfl
      · rw [show TxS.nn (TxS.B : TxS s) = 4 from if_neg hc]
        have h39 := decode39 (r := s.drop 2) hc
        rw [← hc1, ← hd1] at h39
        have hw1 := decodeL_width (s.drop 1)
        have hw2 := decodeL_le (s.drop 1) (by rw [hc1]; simp)
        rw [← hd1] at hw1 hw2
        have hR : (((Utf8.decode ⟨s.toArray⟩ 1).1 : Int) != 39) = true := by rw [bne_iff_ne]; omega
        have ew := cut_to (s := s) (pos := 1) (w := (Utf8.decode ⟨s.toArray⟩ 1).2) (by rw [List.length_drop] at hw2; omega)
        have es : (decide (0 ≤ ((1 : Nat) : Int)) && decide (((1 : Nat) : Int) ≤ IntKind.i64.wrap (((1 : Nat) : Int) + ((Utf8.decode ⟨s.toArray⟩ 1).2 : Int))) && decide (IntKind.i64.wrap (((1 : Nat) : Int) + ((Utf8.decode ⟨s.toArray⟩ 1).2 : Int)) ≤ ((s.length : Nat) : Int))) = true := by
          rw [List.length_drop] at hw2
          rw [w64 (by omega) (by omega)]
          simp only [Bool.and_eq_true, decide_eq_true_eq]
          omega
        iterate 40 (all_goals (try conv => whnf); all_goals (try first | with_reducible refine brY (by assumption) ?_ | with_reducible refine brN (by assumption) ?_ | (with_reducible refine brT ?_ ?_; · (simp only [Bool.and_eq_true, Bool.not_eq_true', decide_eq_true_eq, decide_eq_false_iff_not, beq_iff_eq, beq_eq_false_iff_ne, ne_eq] at *; omega)) | with_reducible refine br (fun _ => ?_) (fun _ => ?_) | with_reducible refine ⟨rfl, ?_⟩ | with_reducible refine ARound.succ ?_ | with_reducible refine PCall.call (cd) ?_ | with_reducible refine PCall.call (cp) ?_ | (rw [ew]; refine ws_first (by rw [List.length_take]; omega) (by rw [List.length_take]; omega) ?_) | (refine allLtK_of lt_by ?_) | (refine allLtK_of (lt_one rfl) ?_)))
        all_goals
          obtain ⟨f, hf⟩ : ∃ f, s.length = f + 1 := ⟨s.length - 1, by omega⟩
          have hgo := textGo_char (f := f) (i := 1) (l := s.drop 1) (buf := []) (bad := false) (by rw [hc1]; simp) (by rw [getD_drop]; exact hc)
          rw [← hf, ← start, ← hd1, List.nil_append, Bool.false_or, List.drop_drop] at hgo
        · have hr := (by assumption : (((Utf8.decode ⟨s.toArray⟩ 1).1 : Int) == 65533) = true)
          have e1 : ((Utf8.decode ⟨s.toArray⟩ 1).1 == 65533) = true := by rw [← int_beq]; exact hr
          have e2 : (((Utf8.decode ⟨s.toArray⟩ 1).2 : Int) == 1) = ((Utf8.decode ⟨s.toArray⟩ 1).2 == 1) := int_beq _ 1
          rw [e1, Bool.true_and] at hgo
          refine ⟨.C false (1 + (Utf8.decode ⟨s.toArray⟩ 1).2) 0 ((s.drop 1).take (Utf8.decode ⟨s.toArray⟩ 1).2) ((Utf8.decode ⟨s.toArray⟩ 1).2 == 1) false ⟨by omega, by omega, by rw [List.length_take]; omega, by rw [List.length_take]; omega, fun _ => ⟨f, by rw [List.length_drop]; omega, hgo⟩, fun h => (by cases h)⟩, by simp only [TxS.mu]; omega, by rw [e2], rfl⟩
        · have hr := (by assumption : (((Utf8.decode ⟨s.toArray⟩ 1).1 : Int) == 65533) = false)
          have e1 : ((Utf8.decode ⟨s.toArray⟩ 1).1 == 65533) = false := by rw [← int_beq]; exact hr
          rw [e1, Bool.false_and] at hgo
          refine ⟨.C false (1 + (Utf8.decode ⟨s.toArray⟩ 1).2) 0 ((s.drop 1).take (Utf8.decode ⟨s.toArray⟩ 1).2) false false ⟨by omega, by omega, by rw [List.length_take]; omega, by rw [List.length_take]; omega, fun _ => ⟨f, by rw [List.length_drop]; omega, hgo⟩, fun h => (by cases h)⟩, by simp only [TxS.mu]; omega, rfl, rfl⟩
    · have hb : Nat.blt 1 s.length = false := by rw [Bool.eq_false_iff, ne_eq, Nat.blt, Nat.ble_eq]; exact hl
      iterate 24 (all_goals (try conv => whnf); all_goals (try first | with_reducible refine brY (by assumption) ?_ | with_reducible refine brN (by assumption) ?_ | (with_reducible refine brT ?_ ?_; · (simp only [Bool.and_eq_true, Bool.not_eq_true', decide_eq_true_eq, decide_eq_false_iff_not, beq_iff_eq, beq_eq_false_iff_ne, ne_eq] at *; omega)) | with_reducible refine br (fun _ => ?_) (fun _ => ?_) | with_reducible refine ⟨rfl, ?_⟩ | with_reducible refine ARound.succ ?_))
      refine leaf ?_ (oneS_lit _)
      rw [start, List.drop_of_length_le (by omega)]
      cases s with
      | nil => exact absurd rfl hne
      | cons c r => rfl
  · have hdl : (s.drop pos).length = s.length - pos := List.length_drop
    have p1 := hI.p1
    have pl := hI.pl
    have b0 := hI.b0
    have bl := hI.bl
    have hd1 := decode_pos s pos
    have hb0 : ((pos : Int) == 0) = false := by rw [beq_eq_false_iff_ne]; omega
    have qg : Nat.beq g g = true := nbeq_self g
    cases dbl with
    | true =>
      obtain ⟨hl, hq1, f, hf, hgo⟩ := hI.go2 rfl
      have hD : Utf8.decode ⟨s.toArray⟩ pos = (39, 1) := by rw [hd1, drop_cons hl, hq1, decodeL_q]
      have hb : Nat.blt pos s.length = true := by rw [Nat.blt, Nat.ble_eq]; exact hl
      cases fb with
      | false =>
        rw [show TxS.nn (TxS.C false pos g buf bad true hI) = 4 from rfl]
        iterate 20 (all_goals (try conv => whnf); all_goals (try first | with_reducible refine brY (by assumption) ?_ | with_reducible refine brN (by assumption) ?_ | (with_reducible refine brT ?_ ?_; · (simp only [Bool.and_eq_true, Bool.not_eq_true', decide_eq_true_eq, decide_eq_false_iff_not, beq_iff_eq, beq_eq_false_iff_ne, ne_eq] at *; omega)) | with_reducible refine br (fun _ => ?_) (fun _ => ?_) | with_reducible refine ⟨rfl, ?_⟩ | with_reducible refine ARound.succ ?_ | (refine allLtK_of lt_by ?_)))
        refine ⟨.C false (pos + 1) g buf bad false ⟨by omega, by omega, b0, by omega, fun _ => ⟨f, hf, hgo⟩, fun h => (by cases h)⟩, by simp only [TxS.mu]; omega, rfl, by rw [hD]⟩
      | true =>
        rw [show TxS.nn (TxS.C true pos g buf bad true hI) = 5 from rfl]
        iterate 20 (all_goals (try conv => whnf); all_goals (try first | with_reducible refine brY (by assumption) ?_ | with_reducible refine brN (by assumption) ?_ | (with_reducible refine brT ?_ ?_; · (simp only [Bool.and_eq_true, Bool.not_eq_true', decide_eq_true_eq, decide_eq_false_iff_not, beq_iff_eq, beq_eq_false_iff_ne, ne_eq] at *; omega)) | with_reducible refine br (fun _ => ?_) (fun _ => ?_) | with_reducible refine ⟨rfl, ?_⟩ | with_reducible refine ARound.succ ?_ | (refine allLtK_of lt_by ?_) | (refine allLtK_of (lt_one rfl) ?_)))
        refine ⟨.C true (pos + 1) g buf bad false ⟨by omega, by omega, b0, by omega, fun _ => ⟨f, hf, hgo⟩, fun h => (by cases h)⟩, by simp only [TxS.mu]; omega, rfl, by rw [hD]⟩
    | false =>
      obtain ⟨f, hf, hgo⟩ := hI.go rfl
      by_cases hl : pos < s.length
      · have hb : Nat.blt pos s.length = true := by rw [Nat.blt, Nat.ble_eq]; exact hl
        have hc1 := drop_cons hl
        have cd := decode_from hl
        have cp := prefix_from (s := s) (pos := pos)
        obtain ⟨f, rfl⟩ : ∃ f', f = f' + 1 := ⟨f - 1, by omega⟩
        by_cases hc : s.getD pos 0 = 39
        · have hD : Utf8.decode ⟨s.toArray⟩ pos = (39, 1) := by rw [hd1, hc1, hc, decodeL_q]
          have hR : (((Utf8.decode ⟨s.toArray⟩ pos).1 : Int) != 39) = false := by rw [hD]; rfl
          cases fb
          · rw [show TxS.nn (TxS.C false pos g buf bad false hI) = 4 from rfl]
            by_cases hq1 : s.getD (pos + 1) 0 = 39
            · have hpre : ([39, 39] : List UInt8).isPrefixOf (s.drop pos) = true := qq_iff.2 ⟨by rw [getD_drop]; exact hc, by rw [getD_drop]; exact hq1⟩
              have hl2 : pos + 1 < s.length := by
                rcases Nat.lt_or_ge (pos + 1) s.length with h | h
                · exact h
                · exfalso; revert hq1; simp [List.getD, List.getElem?_eq_none h]
              have hg2 := textGo_two (f := f) (i := pos) (l := s.drop pos) (buf := buf) (bad := bad) (by rw [getD_drop]; exact hc) (by rw [getD_drop]; exact hq1)
              rw [← hgo, List.drop_drop] at hg2
              iterate 40 (all_goals (try conv => whnf); all_goals (try first | with_reducible refine brY (by assumption) ?_ | with_reducible refine brN (by assumption) ?_ | (with_reducible refine brT ?_ ?_; · (simp only [Bool.and_eq_true, Bool.not_eq_true', decide_eq_true_eq, decide_eq_false_iff_not, beq_iff_eq, beq_eq_false_iff_ne, ne_eq] at *; omega)) | with_reducible refine br (fun _ => ?_) (fun _ => ?_) | with_reducible refine ⟨rfl, ?_⟩ | with_reducible refine ARound.succ ?_ | with_reducible refine PCall.call (cp) ?_ | (refine wb_app (bi := 1) (j := 3) (g := g) (o := buf) (c := 39) rfl rfl rfl (by omega) (by omega) (by omega) ltHF (by omega) ?_) | (refine allLtK_of lt_by ?_) | (refine allLtK_of (lt_one rfl) ?_)))
              refine ⟨.C false (pos + 1) (g + 1) (buf ++ [39]) bad true ⟨by omega, by omega, by simp, by simp; omega, fun h => (by cases h), fun _ => ⟨hl2, hq1, f, by rw [List.length_drop] at hf ⊢; omega, hg2⟩⟩, by simp only [TxS.mu]; omega, rfl, by rw [hD]; rfl⟩
            · have hpre : ([39, 39] : List UInt8).isPrefixOf (s.drop pos) = false := by
                rw [Bool.eq_false_iff, ne_eq, qq_iff, getD_drop, getD_drop]
                exact fun h => hq1 h.2
              have hg2 := textGo_end (f := f) (i := pos) (l := s.drop pos) (buf := buf) (bad := bad) (by rw [getD_drop]; exact hc) (by rw [getD_drop]; exact hq1)
              rw [← hgo] at hg2
              cases bad with
              | true =>
                iterate 40 (all_goals (try conv => whnf); all_goals (try first | with_reducible refine brY (by assumption) ?_ | with_reducible refine brN (by assumption) ?_ | (with_reducible refine brT ?_ ?_; · (simp only [Bool.and_eq_true, Bool.not_eq_true', decide_eq_true_eq, decide_eq_false_iff_not, beq_iff_eq, beq_eq_false_iff_ne, ne_eq] at *; omega)) | with_reducible refine br (fun _ => ?_) (fun _ => ?_) | with_reducible refine ⟨rfl, ?_⟩ | with_reducible refine ARound.succ ?_ | with_reducible refine PCall.call (cp) ?_))
                exact leaf (by rw [hg2]; rfl) (oneS_lit _)
              | false =>
                iterate 40 (all_goals (try conv => whnf); all_goals (try first | with_reducible refine brY (by assumption) ?_ | with_reducible refine brN (by assumption) ?_ | (with_reducible refine brT ?_ ?_; · (simp only [Bool.and_eq_true, Bool.not_eq_true', decide_eq_true_eq, decide_eq_false_iff_not, beq_iff_eq, beq_eq_false_iff_ne, ne_eq] at *; omega)) | with_reducible refine br (fun _ => ?_) (fun _ => ?_) | with_reducible refine ⟨rfl, ?_⟩ | with_reducible refine ARound.succ ?_ | with_reducible refine PCall.call (cp) ?_ | (refine call54 rfl ?_) | (refine bs_str2 (bi := 1) (j := 3) (g := g) (o := buf) rfl rfl b0 (by omega) ?_)))
                · have h := of_decide_eq_true (by assumption : decide ((64 : Int) < ((buf.length : Nat) : Int)) = true)
                  exact leaf (by rw [hg2, if_neg (by decide), if_pos (by omega)]; rfl) (oneS_lit _)
                · have h := of_decide_eq_false (by assumption : decide ((64 : Int) < ((buf.length : Nat) : Int)) = false)
                  exact leaf (by rw [hg2, if_neg (by decide), if_neg (by omega), w64add (by omega)]; rfl) (oneS_lit _)
          · rw [show TxS.nn (TxS.C true pos g buf bad false hI) = 5 from rfl]
            by_cases hq1 : s.getD (pos + 1) 0 = 39
            · have hpre : ([39, 39] : List UInt8).isPrefixOf (s.drop pos) = true := qq_iff.2 ⟨by rw [getD_drop]; exact hc, by rw [getD_drop]; exact hq1⟩
              have hl2 : pos + 1 < s.length := by
                rcases Nat.lt_or_ge (pos + 1) s.length with h | h
                · exact h
                · exfalso; revert hq1; simp [List.getD, List.getElem?_eq_none h]
              have hg2 := textGo_two (f := f) (i := pos) (l := s.drop pos) (buf := buf) (bad := bad) (by rw [getD_drop]; exact hc) (by rw [getD_drop]; exact hq1)
              rw [← hgo, List.drop_drop] at hg2
              iterate 40 (all_goals (try conv => whnf); all_goals (try first | with_reducible refine brY (by assumption) ?_ | with_reducible refine brN (by assumption) ?_ | (with_reducible refine brT ?_ ?_; · (simp only [Bool.and_eq_true, Bool.not_eq_true', decide_eq_true_eq, decide_eq_false_iff_not, beq_iff_eq, beq_eq_false_iff_ne, ne_eq] at *; omega)) | with_reducible refine br (fun _ => ?_) (fun _ => ?_) | with_reducible refine ⟨rfl, ?_⟩ | with_reducible refine ARound.succ ?_ | with_reducible refine PCall.call (cp) ?_ | (refine wb_app (bi := 1) (j := 4) (g := g) (o := buf) (c := 39) rfl rfl rfl (by omega) (by omega) (by omega) ltHT (by omega) ?_) | (refine allLtK_of lt_by ?_) | (refine allLtK_of (lt_one rfl) ?_)))
              refine ⟨.C true (pos + 1) (g + 1) (buf ++ [39]) bad true ⟨by omega, by omega, by simp, by simp; omega, fun h => (by cases h), fun _ => ⟨hl2, hq1, f, by rw [List.length_drop] at hf ⊢; omega, hg2⟩⟩, by simp only [TxS.mu]; omega, rfl, by rw [hD]; rfl⟩
            · have hpre : ([39, 39] : List UInt8).isPrefixOf (s.drop pos) = false := by
                rw [Bool.eq_false_iff, ne_eq, qq_iff, getD_drop, getD_drop]
                exact fun h => hq1 h.2
              have hg2 := textGo_end (f := f) (i := pos) (l := s.drop pos) (buf := buf) (bad := bad) (by rw [getD_drop]; exact hc) (by rw [getD_drop]; exact hq1)
              rw [← hgo] at hg2
              cases bad with
              | true =>
                iterate 40 (all_goals (try conv => whnf); all_goals (try first | with_reducible refine brY (by assumption) ?_ | with_reducible refine brN (by assumption) ?_ | (with_reducible refine brT ?_ ?_; · (simp only [Bool.and_eq_true, Bool.not_eq_true', decide_eq_true_eq, decide_eq_false_iff_not, beq_iff_eq, beq_eq_false_iff_ne, ne_eq] at *; omega)) | with_reducible refine br (fun _ => ?_) (fun _ => ?_) | with_reducible refine ⟨rfl, ?_⟩ | with_reducible refine ARound.succ ?_ | with_reducible refine PCall.call (cp) ?_))
                exact leaf (by rw [hg2]; rfl) (oneS_lit _)
              | false =>
                iterate 40 (all_goals (try conv => whnf); all_goals (try first | with_reducible refine brY (by assumption) ?_ | with_reducible refine brN (by assumption) ?_ | (with_reducible refine brT ?_ ?_; · (simp only [Bool.and_eq_true, Bool.not_eq_true', decide_eq_true_eq, decide_eq_false_iff_not, beq_iff_eq, beq_eq_false_iff_ne, ne_eq] at *; omega)) | with_reducible refine br (fun _ => ?_) (fun _ => ?_) | with_reducible refine ⟨rfl, ?_⟩ | with_reducible refine ARound.succ ?_ | with_reducible refine PCall.call (cp) ?_ | (refine call54 rfl ?_) | (refine bs_str2 (bi := 1) (j := 4) (g := g) (o := buf) rfl rfl b0 (by omega) ?_)))
                · have h := of_decide_eq_true (by assumption : decide ((64 : Int) < ((buf.length : Nat) : Int)) = true)
                  exact leaf (by rw [hg2, if_neg (by decide), if_pos (by omega)]; rfl) (oneS_lit _)
                · have h := of_decide_eq_false (by assumption : decide ((64 : Int) < ((buf.length : Nat) : Int)) = false)
                  exact leaf (by rw [hg2, if_neg (by decide), if_neg (by omega), w64add (by omega)]; rfl) (oneS_lit _)
        · have h39 := decode39 (r := s.drop (pos + 1)) hc
          rw [← hc1, ← hd1] at h39
          have hw1 := decodeL_width (s.drop pos)
          have hw2 := decodeL_le (s.drop pos) (by rw [hc1]; simp)
          rw [← hd1] at hw1 hw2
          have hR : (((Utf8.decode ⟨s.toArray⟩ pos).1 : Int) != 39) = true := by rw [bne_iff_ne]; omega
          have ew := cut_to (s := s) (pos := pos) (w := (Utf8.decode ⟨s.toArray⟩ pos).2) (by omega)
          have es : (decide (0 ≤ ((pos : Nat) : Int)) && decide (((pos : Nat) : Int) ≤ IntKind.i64.wrap (((pos : Nat) : Int) + ((Utf8.decode ⟨s.toArray⟩ pos).2 : Int))) && decide (IntKind.i64.wrap (((pos : Nat) : Int) + ((Utf8.decode ⟨s.toArray⟩ pos).2 : Int)) ≤ ((s.length : Nat) : Int))) = true := by
            rw [w64 (by omega) (by omega)]
            simp only [Bool.and_eq_true, decide_eq_true_eq]
            omega
          have hg2 := textGo_char (f := f) (i := pos) (l := s.drop pos) (buf := buf) (bad := bad) (by rw [hc1]; simp) (by rw [getD_drop]; exact hc)
          rw [← hgo, ← hd1, List.drop_drop] at hg2
          cases fb
          · rw [show TxS.nn (TxS.C false pos g buf bad false hI) = 4 from rfl]
            cases bad with
            | true =>
              iterate 40 (all_goals (try conv => whnf); all_goals (try first | with_reducible refine brY (by assumption) ?_ | with_reducible refine brN (by assumption) ?_ | (with_reducible refine brT ?_ ?_; · (simp only [Bool.and_eq_true, Bool.not_eq_true', decide_eq_true_eq, decide_eq_false_iff_not, beq_iff_eq, beq_eq_false_iff_ne, ne_eq] at *; omega)) | with_reducible refine br (fun _ => ?_) (fun _ => ?_) | with_reducible refine ⟨rfl, ?_⟩ | with_reducible refine ARound.succ ?_ | with_reducible refine PCall.call (cd) ?_ | (rw [ew]; refine ws_app (bi := 1) (j := 3) (g := g) (o := buf) rfl rfl (by omega) (by omega) (by omega) ltHF (by rw [List.length_take]; omega) (fun g' => ?_)) | (refine allLtK_of lt_by ?_) | (refine allLtK_of (lt_one rfl) ?_)))
              refine ⟨.C false (pos + (Utf8.decode ⟨s.toArray⟩ pos).2) g' (buf ++ (s.drop pos).take (Utf8.decode ⟨s.toArray⟩ pos).2) true false ⟨by omega, by omega, by rw [List.length_append]; omega, by rw [List.length_append, List.length_take]; omega, fun _ => ⟨f, by rw [List.length_drop] at hf ⊢; omega, hg2⟩, fun h => (by cases h)⟩, by simp only [TxS.mu]; omega, rfl, rfl⟩
            | false =>
              iterate 40 (all_goals (try conv => whnf); all_goals (try first | with_reducible refine brY (by assumption) ?_ | with_reducible refine brN (by assumption) ?_ | (with_reducible refine brT ?_ ?_; · (simp only [Bool.and_eq_true, Bool.not_eq_true', decide_eq_true_eq, decide_eq_false_iff_not, beq_iff_eq, beq_eq_false_iff_ne, ne_eq] at *; omega)) | with_reducible refine br (fun _ => ?_) (fun _ => ?_) | with_reducible refine ⟨rfl, ?_⟩ | with_reducible refine ARound.succ ?_ | with_reducible refine PCall.call (cd) ?_ | (rw [ew]; refine ws_app (bi := 1) (j := 3) (g := g) (o := buf) rfl rfl (by omega) (by omega) (by omega) ltHF (by rw [List.length_take]; omega) (fun g' => ?_)) | (refine allLtK_of lt_by ?_) | (refine allLtK_of (lt_one rfl) ?_)))
              · have hr := (by assumption : (((Utf8.decode ⟨s.toArray⟩ pos).1 : Int) == 65533) = true)
                have e1 : ((Utf8.decode ⟨s.toArray⟩ pos).1 == 65533) = true := by rw [← int_beq]; exact hr
                have e2 : (((Utf8.decode ⟨s.toArray⟩ pos).2 : Int) == 1) = ((Utf8.decode ⟨s.toArray⟩ pos).2 == 1) := int_beq _ 1
                rw [Bool.false_or, e1, Bool.true_and] at hg2
                refine ⟨.C false (pos + (Utf8.decode ⟨s.toArray⟩ pos).2) g' (buf ++ (s.drop pos).take (Utf8.decode ⟨s.toArray⟩ pos).2) ((Utf8.decode ⟨s.toArray⟩ pos).2 == 1) false ⟨by omega, by omega, by rw [List.length_append]; omega, by rw [List.length_append, List.length_take]; omega, fun _ => ⟨f, by rw [List.length_drop] at hf ⊢; omega, hg2⟩, fun h => (by cases h)⟩, by simp only [TxS.mu]; omega, by rw [e2], rfl⟩
              · have hr := (by assumption : (((Utf8.decode ⟨s.toArray⟩ pos).1 : Int) == 65533) = false)
                have e1 : ((Utf8.decode ⟨s.toArray⟩ pos).1 == 65533) = false := by rw [← int_beq]; exact hr
                rw [Bool.false_or, e1, Bool.false_and] at hg2
                refine ⟨.C false (pos + (Utf8.decode ⟨s.toArray⟩ pos).2) g' (buf ++ (s.drop pos).take (Utf8.decode ⟨s.toArray⟩ pos).2) false false ⟨by omega, by omega, by rw [List.length_append]; omega, by rw [List.length_append, List.length_take]; omega, fun _ => ⟨f, by rw [List.length_drop] at hf ⊢; omega, hg2⟩, fun h => (by cases h)⟩, by simp only [TxS.mu]; omega, rfl, rfl⟩
          · rw [show TxS.nn (TxS.C true pos g buf bad false hI) = 5 from rfl]
            cases bad with
            | true =>
              iterate 40 (all_goals (try conv => whnf); all_goals (try first | with_reducible refine brY (by assumption) ?_ | with_reducible refine brN (by assumption) ?_ | (with_reducible refine brT ?_ ?_; · (simp only [Bool.and_eq_true, Bool.not_eq_true', decide_eq_true_eq, decide_eq_false_iff_not, beq_iff_eq, beq_eq_false_iff_ne, ne_eq] at *; omega)) | with_reducible refine br (fun _ => ?_) (fun _ => ?_) | with_reducible refine ⟨rfl, ?_⟩ | with_reducible refine ARound.succ ?_ | with_reducible refine PCall.call (cd) ?_ | (rw [ew]; refine ws_app (bi := 1) (j := 4) (g := g) (o := buf) rfl rfl (by omega) (by omega) (by omega) ltHT (by rw [List.length_take]; omega) (fun g' => ?_)) | (refine allLtK_of lt_by ?_) | (refine allLtK_of (lt_one rfl) ?_)))
              refine ⟨.C true (pos + (Utf8.decode ⟨s.toArray⟩ pos).2) g' (buf ++ (s.drop pos).take (Utf8.decode ⟨s.toArray⟩ pos).2) true false ⟨by omega, by omega, by rw [List.length_append]; omega, by rw [List.length_append, List.length_take]; omega, fun _ => ⟨f, by rw [List.length_drop] at hf ⊢; omega, hg2⟩, fun h => (by cases h)⟩, by simp only [TxS.mu]; omega, rfl, rfl⟩
            | false =>
              iterate 40 (all_goals (try conv => whnf); all_goals (try first | with_reducible refine brY (by assumption) ?_ | with_reducible refine brN (by assumption) ?_ | (with_reducible refine brT ?_ ?_; · (simp only [Bool.and_eq_true, Bool.not_eq_true', decide_eq_true_eq, decide_eq_false_iff_not, beq_iff_eq, beq_eq_false_iff_ne, ne_eq] at *; omega)) | with_reducible refine br (fun _ => ?_) (fun _ => ?_) | with_reducible refine ⟨rfl, ?_⟩ | with_reducible refine ARound.succ ?_ | with_reducible refine PCall.call (cd) ?_ | (rw [ew]; refine ws_app (bi := 1) (j := 4) (g := g) (o := buf) rfl rfl (by omega) (by omega) (by omega) ltHT (by rw [List.length_take]; omega) (fun g' => ?_)) | (refine allLtK_of lt_by ?_) | (refine allLtK_of (lt_one rfl) ?_)))
              · have hr := (by assumption : (((Utf8.decode ⟨s.toArray⟩ pos).1 : Int) == 65533) = true)
                have e1 : ((Utf8.decode ⟨s.toArray⟩ pos).1 == 65533) = true := by rw [← int_beq]; exact hr
                have e2 : (((Utf8.decode ⟨s.toArray⟩ pos).2 : Int) == 1) = ((Utf8.decode ⟨s.toArray⟩ pos).2 == 1) := int_beq _ 1
                rw [Bool.false_or, e1, Bool.true_and] at hg2
                refine ⟨.C true (pos + (Utf8.decode ⟨s.toArray⟩ pos).2) g' (buf ++ (s.drop pos).take (Utf8.decode ⟨s.toArray⟩ pos).2) ((Utf8.decode ⟨s.toArray⟩ pos).2 == 1) false ⟨by omega, by omega, by rw [List.length_append]; omega, by rw [List.length_append, List.length_take]; omega, fun _ => ⟨f, by rw [List.length_drop] at hf ⊢; omega, hg2⟩, fun h => (by cases h)⟩, by simp only [TxS.mu]; omega, by rw [e2], rfl⟩
              · have hr := (by assumption : (((Utf8.decode ⟨s.toArray⟩ pos).1 : Int) == 65533) = false)
                have e1 : ((Utf8.decode ⟨s.toArray⟩ pos).1 == 65533) = false := by rw [← int_beq]; exact hr
                rw [Bool.false_or, e1, Bool.false_and] at hg2
                refine ⟨.C true (pos + (Utf8.decode ⟨s.toArray⟩ pos).2) g' (buf ++ (s.drop pos).take (Utf8.decode ⟨s.toArray⟩ pos).2) false false ⟨by omega, by omega, by rw [List.length_append]; omega, by rw [List.length_append, List.length_take]; omega, fun _ => ⟨f, by rw [List.length_drop] at hf ⊢; omega, hg2⟩, fun h => (by cases h)⟩, by simp only [TxS.mu]; omega, rfl, rfl⟩
      · have hb : Nat.blt pos s.length = false := by rw [Bool.eq_false_iff, ne_eq, Nat.blt, Nat.ble_eq]; exact hl
        rw [List.drop_of_length_le (by omega), textGo_nil] at hgo
        cases fb <;> iterate 24 (all_goals (try conv => whnf); all_goals (try first | with_reducible refine brY (by assumption) ?_ | with_reducible refine brN (by assumption) ?_ | (with_reducible refine brT ?_ ?_; · (simp only [Bool.and_eq_true, Bool.not_eq_true', decide_eq_true_eq, decide_eq_false_iff_not, beq_iff_eq, beq_eq_false_iff_ne, ne_eq] at *; omega)) | with_reducible refine br (fun _ => ?_) (fun _ => ?_) | with_reducible refine ⟨rfl, ?_⟩ | with_reducible refine ARound.succ ?_))
        all_goals exact leaf (by rw [hgo]; rfl) (oneS_lit _)
end Go.Proofs.YtlhpbcbkkbjhoaaGreatDoor
namespace Go.Proofs.YtlhpbcbkkbjhoaaGreatDoor
open Ab Go.RowKit
set_option maxRecDepth 1000000
set_option linter.unusedVariables false
set_option linter.unusedSimpArgs false
set_option maxHeartbeats 8000000
set_option pp.maxSteps 3000
def tabsS : List (Nat × Tab) := [(30, t30), (48, t48)]
theorem tabsSOk : TabsOk Tryz.prog tabsS := .cons tab30 (.cons tab48 (.nil))
def signE : List SV := [.str [60, 62], .str [60, 61], .str [62, 61], .str [124, 124], .str [40], .str [41], .str [44], .str [59], .str [46], .str [42], .str [43], .str [45], .str [47], .str [37], .str [61], .str [60], .str [62]]
def signR : AEnd → Heap → Prop := fun r h' => ∃ v', r = .ret v' ∧ Hard h' v' (.lst 1 17 fun i => .str (signsL.getD i []))
theorem signs_any : PCall Tryz.prog 30 [] (.lst 1 17 fun i => .str (signsL.getD i [])) := by
  refine pcall_of (fun _ h => by simp at h) ((lvl_sound mixed tabsSOk 60).1.call _ _ _ _ (Eq.mpr (show (lvl Tryz.prog tabsS 60).1.call 30 [] ⟨0, []⟩ signR = signR (.ret (.sl 0 0 1 0 17 (some 17))) ⟨1, [(0, .vec 0 1 signE ⟨false, some 9⟩)]⟩ by kernel_rfl) ?_))
  refine ⟨_, rfl, ?_⟩
  exact hard_all (elems := signE) (get := fun i => .str (signsL.getD i [])) rfl ⟨rfl, .str _, rfl, .str _, rfl, .str _, rfl, .str _, rfl, .str _, rfl, .str _, rfl, .str _, rfl, .str _, rfl, .str _, rfl, .str _, rfl, .str _, rfl, .str _, rfl, .str _, rfl, .str _, rfl, .str _, rfl, .str _, rfl, .str _, trivial⟩
theorem one_any {s : List UInt8} (hs : s.length ≤ 100000) (hne : s ≠ []) : PCall Tryz.prog 13 [.str s] (oneS (oneL s)) := by
  refine pcall_of (lits1 (.str _)) (call13 rfl ?_)
  have hpos : 0 < s.length := by cases s with | nil => exact absurd rfl hne | cons c r => simp
  have hl := letter_any (s.getD (Int.toNat 0) 0)
  have hg := digit_any (s.getD (Int.toNat 0) 0)
  have eo : oneL s = if isLetter (s.getD 0 0) then wordL s else if isDigit (s.getD 0 0) then numberL s else if s.getD 0 0 == 39 then textL s else signL s signsL := by
    cases s with
    | nil => exact absurd rfl hne
    | cons c r => rfl
  have e0 : Int.toNat 0 = 0 := rfl
  cases h1 : isLetter (s.getD (Int.toNat 0) 0)
  · have h1' := h1
    rw [e0] at h1
    rw [h1, if_neg (by decide)] at eo
    cases h2 : isDigit (s.getD (Int.toNat 0) 0)
    · have h2' := h2
      rw [e0] at h2
      rw [h2, if_neg (by decide)] at eo
      by_cases h3 : s.getD 0 0 = 39
      · have h4 : (((s.getD (Int.toNat 0) 0).toNat : Int) == 39) = true := by rw [e0, h3]; rfl
        rw [h3, if_pos (by decide)] at eo
        have ht := text_any hs h3 hne
        cases hT : textL s
        all_goals rw [hT] at ht
        all_goals iterate 20 (all_goals (try conv => whnf); all_goals (try first | with_reducible refine brY (by assumption) ?_ | with_reducible refine brN (by assumption) ?_ | (with_reducible refine brT ?_ ?_; · (simp only [Bool.and_eq_true, Bool.not_eq_true', decide_eq_true_eq, decide_eq_false_iff_not, beq_iff_eq, beq_eq_false_iff_ne, ne_eq] at *; omega)) | with_reducible refine br (fun _ => ?_) (fun _ => ?_) | with_reducible refine ⟨rfl, ?_⟩ | with_reducible refine ARound.succ ?_ | with_reducible refine PCall.call (hl) ?_ | with_reducible refine PCall.call (hg) ?_ | with_reducible refine PCall.call (ht) ?_))
        all_goals exact leaf (by rw [eo, hT]; rfl) (oneS_lit _)
      · have h4 : (((s.getD (Int.toNat 0) 0).toNat : Int) == 39) = false := by
          rw [e0, beq_eq_false_iff_ne]
          intro e
          exact h3 (UInt8.toNat_inj.1 (by have : (39 : UInt8).toNat = 39 := rfl; omega))
        rw [if_neg (by simpa using h3)] at eo
        have hp : ∀ p : List UInt8, p.length ≤ 1000000 → PCall Tryz.prog 31 [.str s, .str p] (.bool (p.isPrefixOf s)) := fun p h => hasPrefix_any h
        iterate 14 (all_goals (try conv => whnf); all_goals (try first | with_reducible refine brY (by assumption) ?_ | with_reducible refine brN (by assumption) ?_ | (with_reducible refine brT ?_ ?_; · (simp only [Bool.and_eq_true, Bool.not_eq_true', decide_eq_true_eq, decide_eq_false_iff_not, beq_iff_eq, beq_eq_false_iff_ne, ne_eq] at *; omega)) | with_reducible refine br (fun _ => ?_) (fun _ => ?_) | with_reducible refine ⟨rfl, ?_⟩ | with_reducible refine ARound.succ ?_ | with_reducible refine PCall.call (hl) ?_ | with_reducible refine PCall.call (hg) ?_ | with_reducible refine PCall.call (signs_any) ?_))
        refine loop_ind (σ := {i : Nat // i ≤ 17 ∧ signL s signsL = signL s (signsL.drop i)}) (fun x => [(0, SV.str s), (2, SV.ref 0 0 0 0), (3, SV.int IntKind.i64 0), (4, SV.int IntKind.i64 0), (5, SV.int IntKind.u8 ((s.getD (Int.toNat 0) 0).toNat : Int)), (10, SV.bool false), (18, SV.bool false), (26, SV.bool false), (34, SV.lst 1 17 fun i => SV.str (signsL.getD i [])), (35, SV.int IntKind.i64 ((17 : Nat) : Int)), (36, SV.int IntKind.i64 x.1)])
          (fun _ => ⟨1, [(0, tok0)]⟩) (fun x => 17 - x.1) ?_ ⟨0, by omega, rfl⟩
        rintro ⟨i, hi, he⟩
        dsimp only
        by_cases hil : i < 17
        · have hd : decide ((i : Int) < ((17 : Nat) : Int)) = true := decide_eq_true (by omega)
          have e7 : IntKind.i64.wrap ((i : Int) + 1) = ((i + 1 : Nat) : Int) := w64add (by omega)
          have et := Int.toNat_natCast i
          have hlen : (signsL.getD (i : Int).toNat []).length ≤ 1000000 := by
            rw [et]
            have : ∀ j : Fin 17, (signsL.getD j.val []).length ≤ 1000000 := by decide
            exact this ⟨i, hil⟩
          have hcx := hp _ hlen
          have hdc : signsL.drop i = signsL.getD (i : Int).toNat [] :: signsL.drop (i + 1) := by
            rw [et]
            have : ∀ j : Fin 17, signsL.drop j.val = signsL.getD j.val [] :: signsL.drop (j.val + 1) := by decide
            exact this ⟨i, hil⟩
          rw [hdc, signL] at he
          cases hx : (signsL.getD (i : Int).toNat []).isPrefixOf s
          · rw [hx, if_neg (by decide)] at he
            iterate 16 (all_goals (try conv => whnf); all_goals (try first | with_reducible refine brY (by assumption) ?_ | with_reducible refine brN (by assumption) ?_ | (with_reducible refine brT ?_ ?_; · (simp only [Bool.and_eq_true, Bool.not_eq_true', decide_eq_true_eq, decide_eq_false_iff_not, beq_iff_eq, beq_eq_false_iff_ne, ne_eq] at *; omega)) | with_reducible refine br (fun _ => ?_) (fun _ => ?_) | with_reducible refine ⟨rfl, ?_⟩ | with_reducible refine ARound.succ ?_ | with_reducible refine PCall.call (hcx) ?_))
            exact ⟨⟨i + 1, hil, he⟩, by dsimp only; omega, by rw [e7], rfl⟩
          · rw [hx, if_pos rfl] at he
            iterate 16 (all_goals (try conv => whnf); all_goals (try first | with_reducible refine brY (by assumption) ?_ | with_reducible refine brN (by assumption) ?_ | (with_reducible refine brT ?_ ?_; · (simp only [Bool.and_eq_true, Bool.not_eq_true', decide_eq_true_eq, decide_eq_false_iff_not, beq_iff_eq, beq_eq_false_iff_ne, ne_eq] at *; omega)) | with_reducible refine br (fun _ => ?_) (fun _ => ?_) | with_reducible refine ⟨rfl, ?_⟩ | with_reducible refine ARound.succ ?_ | with_reducible refine PCall.call (hcx) ?_))
            exact leaf (by rw [eo, he]; rfl) (oneS_lit _)
        · have hd : decide ((i : Int) < ((17 : Nat) : Int)) = false := decide_eq_false (by omega)
          iterate 16 (all_goals (try conv => whnf); all_goals (try first | with_reducible refine brY (by assumption) ?_ | with_reducible refine brN (by assumption) ?_ | (with_reducible refine brT ?_ ?_; · (simp only [Bool.and_eq_true, Bool.not_eq_true', decide_eq_true_eq, decide_eq_false_iff_not, beq_iff_eq, beq_eq_false_iff_ne, ne_eq] at *; omega)) | with_reducible refine br (fun _ => ?_) (fun _ => ?_) | with_reducible refine ⟨rfl, ?_⟩ | with_reducible refine ARound.succ ?_))
          obtain rfl : i = 17 := by omega
          exact leaf (by rw [eo, he]; rfl) (oneS_lit _)
    · have h2' := h2
      rw [e0] at h2
      have hn := number_any hs h2 hne
      rw [h2, if_pos rfl] at eo
      cases hT : numberL s
      all_goals rw [hT] at hn
      all_goals iterate 20 (all_goals (try conv => whnf); all_goals (try first | with_reducible refine brY (by assumption) ?_ | with_reducible refine brN (by assumption) ?_ | (with_reducible refine brT ?_ ?_; · (simp only [Bool.and_eq_true, Bool.not_eq_true', decide_eq_true_eq, decide_eq_false_iff_not, beq_iff_eq, beq_eq_false_iff_ne, ne_eq] at *; omega)) | with_reducible refine br (fun _ => ?_) (fun _ => ?_) | with_reducible refine ⟨rfl, ?_⟩ | with_reducible refine ARound.succ ?_ | with_reducible refine PCall.call (hl) ?_ | with_reducible refine PCall.call (hg) ?_ | with_reducible refine PCall.call (hn) ?_))
      all_goals exact leaf (by rw [eo, hT]; rfl) (oneS_lit _)
  · have h1' := h1
    rw [e0] at h1
    have hw := word_any hs
    rw [h1, if_pos rfl] at eo
    cases hT : wordL s
    all_goals rw [hT] at hw
    all_goals iterate 20 (all_goals (try conv => whnf); all_goals (try first | with_reducible refine brY (by assumption) ?_ | with_reducible refine brN (by assumption) ?_ | (with_reducible refine brT ?_ ?_; · (simp only [Bool.and_eq_true, Bool.not_eq_true', decide_eq_true_eq, decide_eq_false_iff_not, beq_iff_eq, beq_eq_false_iff_ne, ne_eq] at *; omega)) | with_reducible refine br (fun _ => ?_) (fun _ => ?_) | with_reducible refine ⟨rfl, ?_⟩ | with_reducible refine ARound.succ ?_ | with_reducible refine PCall.call (hl) ?_ | with_reducible refine PCall.call (hg) ?_ | with_reducible refine PCall.call (hw) ?_))
    all_goals exact leaf (by rw [eo, hT]; rfl) (oneS_lit _)
end Go.Proofs.YtlhpbcbkkbjhoaaGreatDoor
