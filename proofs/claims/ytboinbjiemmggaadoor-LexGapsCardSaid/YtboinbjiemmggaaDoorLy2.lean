/- Tokens and lists of tokens, as values of the layer. -/
import Derived.Test.YtboinbjiemmggaaDoorLx5
import Derived.Test.YtboinbjiemmggaaDoorEh
import Derived.Test.YtboinbjiemmggaaDoorVe3
import Derived.Test.YtboinbjiemmggaaDoorLy1
namespace Go.Proofs.YtboinbjiemmggaaDoor
open Ab Go.RowKit
set_option maxRecDepth 100000
set_option linter.unusedVariables false
set_option linter.unusedSimpArgs false
attribute [local irreducible] appendK allLtK
abbrev TP := Tk × Nat
@[reducible] def tokP (x : TP) : SV := .agg [.int .u8 x.1.k, .str x.1.t, .int .u64 x.1.n, .int .i64 x.2]
def tnull : TP := (⟨0, [], 0⟩, 0)
@[reducible] def lstT (l : List TP) : SV := .lst 4 l.length fun i => tokP (l.getD i tnull)
theorem tokP_lit (x : TP) : LitV (tokP x) := .agg (by simp only [List.mem_cons, List.not_mem_nil, or_false]; rintro _ (rfl | rfl | rfl | rfl) <;> constructor)
theorem lit3 {a b c : SV} (ha : LitV a) (hb : LitV b) (hc : LitV c) : LitV (.tup [a, b, c]) := .tup (by simp only [List.mem_cons, List.not_mem_nil, or_false]; rintro _ (rfl | rfl | rfl); exact ha; exact hb; exact hc)
/-- What is answered for the token that a text begins with. -/
def oneS : One → SV
  | .ok x n => .tup [tokP (x, 0), .int .i64 n, .int .i64 0]
  | .err e => .tup [tokP tnull, .int .i64 0, .int .i64 e]
theorem oneS_lit (o : One) : LitV (oneS o) := by cases o <;> exact lit3 (tokP_lit _) (.int _ _) (.int _ _)
theorem takeT {l : List TP} {k : Nat} (h : k < l.length) : l.take (k + 1) = l.take k ++ [l.getD k tnull] := by
  rw [List.take_add_one]
  simp [List.getD, h]
theorem agree_ts : ∀ (s : List TP) (k : Nat) (get : Nat → SV), (∀ j, j < s.length → get (k + j) = (tokP (s.getD j tnull))) → agree (s.map tokP) k get
  | [], _, _, _ => trivial
  | b :: r, k, get, h => by
    refine ⟨?_, tokP_lit _, agree_ts r (k + 1) get fun j hj => ?_⟩
    · have := h 0 (by simp)
      simpa using this.symm
    · have := h (j + 1) (by simp; omega)
      rw [show k + 1 + j = k + (j + 1) by omega, this]
      simp [List.getD]
theorem hard_ts {A : Heap} {i g : Nat} {cap : Option Nat} {s : List TP} {n : Nat} {sk : Sk} (ho : A.obj i = some (.vec g 4 (s.map tokP) sk)) (hn : n = s.length) : Hard A (.sl i g 4 0 n cap) (lstT s) := by
  subst hn
  have := hard_all (cap := cap) (get := fun i => (tokP (s.getD i tnull))) ho (agree_ts s 0 _ fun j _ => by rw [Nat.zero_add])
  rw [List.length_map] at this
  exact this
theorem lt_ts {n : Nat} {s : List TP} : ∀ v ∈ s.map tokP, SV.lt 8 n v = true := by
  intro v hv
  obtain ⟨b, _, rfl⟩ := List.mem_map.1 hv
  rfl
theorem app_tok1 {m : Nat} {v : TP} {sk : Sk} {l : List (Nat × AObj)} {k : SV → Heap → Prop}
    (hk : k (.sl (m + 1) 0 4 0 1 none) ⟨m + 2, (m + 1, .vec 0 4 [(tokP v)] ⟨true, some 32⟩) :: (m, .vec 0 4 [(tokP v)] sk) :: l⟩) :
    appendK 32 4 40 ⟨m + 1, (m, .vec 0 4 [(tokP v)] sk) :: l⟩ .nils (.sl m 0 4 0 1 (some 1)) k :=
  append_new (elems_all objL_hd rfl) (by simp) rfl (by simp) (by simp) hk
theorem app_tok {m i g : Nat} {vs : List TP} {v : TP} {sk : Sk} {l : List (Nat × AObj)} {k : SV → Heap → Prop} (ho : objL l i = some (.vec g 4 (vs.map tokP) ⟨true, some 32⟩)) (him : i < m) (hlen : vs.length ≤ 100000)
    (hk : k (.sl i (g + 1) 4 0 (vs.length + 1) none) ⟨m + 1, (m, .vec 0 4 [(tokP v)] sk) :: putO l i (.vec (g + 1) 4 ((vs ++ [v]).map tokP) ⟨true, some 32⟩)⟩) :
    appendK 32 4 40 ⟨m + 1, (m, .vec 0 4 [(tokP v)] sk) :: l⟩ (.sl i g 4 0 vs.length none) (.sl m 0 4 0 1 (some 1)) k := by
  refine append_mv (elems_all objL_hd rfl) (by simp) rfl (by rw [objL_nx (by omega)]; exact ho) (by simp) (by simp; omega) (by simp; omega) ?_
  rw [setO_eq]
  unfold putO
  rw [if_neg (by omega), joinTy_self]
  rw [List.map_append] at hk
  exact hk
theorem elems_ts {h : Heap} {s : List TP} : Elems h 4 (lstT s) (s.map tokP) := fun k hk => by
  refine elems_lst k ?_
  have e : (List.range s.length).map (fun i => (tokP (s.getD i tnull))) = s.map tokP := by
    apply List.ext_getElem
    · simp
    · intro i h1 h2
      simp only [List.length_map] at h2
      simp [h2]
  rw [e]; exact hk
theorem allOnes_ts : ∀ s : List TP, allOnes (s.map tokP) = true
  | [] => rfl
  | b :: r => by
    show (allOne (tokP b).cells && allOnes (r.map tokP)) = true
    rw [allOnes_ts r]; rfl
end Go.Proofs.YtboinbjiemmggaaDoor
