/- Contracts of the library's shelf, as calls of the layer. -/
import Derived.Test.YtboinbjiemmggaaDoorAbM
import Derived.Below
import Derived.Sort.Grow
namespace Ab
open Go Go.RowKit
theorem pcall_below {P : Program} {f : FuncId} {args : List SV} {v : SV} (hargs : ∀ a ∈ args, LitV a) (hl : LitV v)
    (hc : ∀ (Im : Nat → Prop) (w : World) (xs : Array Value), GlobOk Im w → (∀ b, Im b → b < w.heap.size) → xs.size = args.length → (∀ (i : Nat) (u : SV) (x : Value), args[i]? = some u → xs[i]? = some x → VP Im w u x) →
      Calls P f xs w fun e w' => (∃ x, e = .returned x ∧ VP Im w' v x) ∧ Below w.heap.size w w') : PCall P f args v := by
  refine pcall_of hargs ⟨fun c w xs hr hs hv => ?_⟩
  refine (hc c.Im w xs hr.glob hr.im hs fun i u x a b => (hargs _ (List.mem_of_getElem? a)).vp (hv i u x a b)).mono fun e w' ⟨⟨x, he, hx⟩, hb⟩ => ?_
  have hh : ∀ b, c.Im b → w'.heap[b]? = w.heap[b]? := fun b h => hb.block b (hr.im b h)
  refine ⟨c, ⟨0, []⟩, .ret v, ⟨v, rfl, .lit hl⟩, ⟨(fun i o ho => by cases ho), (fun i o ho => by cases ho), (fun i j o p ho => by cases ho), (fun i o ho => by cases ho), fun b h => Nat.lt_of_lt_of_le (hr.im b h) hb.size, hr.glob.mono (fun _ h => h) hh⟩,
    ⟨hb.os, hb.tape, hb.output, hb.size, fun b h _ => hb.block b h, fun b h => ?_, fun _ h => h, fun _ h => .inl h, Nat.le_refl _, (fun i o' _ ho => by cases ho), fun i o' ho => by cases ho⟩, x, he, .pure hx⟩
  unfold World.shape?
  rw [hb.block b h]
/-- The same for an answer that speaks of memory of its own. -/
theorem pcall_below2 {P : Program} {f : FuncId} {args : List SV} {v : SV} (hargs : ∀ a ∈ args, LitV a) (hl : LitV v)
    (hc : ∀ (Im : Nat → Prop) (w : World) (xs : Array Value), GlobOk Im w → (∀ b, Im b → b < w.heap.size) → xs.size = args.length → (∀ (i : Nat) (u : SV) (x : Value), args[i]? = some u → xs[i]? = some x → VP Im w u x) →
      Calls P f xs w fun e w' => (∃ x, e = .returned x ∧ VP (fun b => Im b ∨ (w.heap.size ≤ b ∧ b < w'.heap.size)) w' v x) ∧ Below w.heap.size w w') : PCall P f args v := by
  refine pcall_of hargs ⟨fun c w xs hr hs hv => ?_⟩
  refine (hc c.Im w xs hr.glob hr.im hs fun i u x a b => (hargs _ (List.mem_of_getElem? a)).vp (hv i u x a b)).mono fun e w' ⟨⟨x, he, hx⟩, hb⟩ => ?_
  have hh : ∀ b, c.Im b → w'.heap[b]? = w.heap[b]? := fun b h => hb.block b (hr.im b h)
  refine ⟨⟨c.β, fun b => c.Im b ∨ (w.heap.size ≤ b ∧ b < w'.heap.size)⟩, ⟨0, []⟩, .ret v, ⟨v, rfl, .lit hl⟩, ⟨(fun i o ho => by cases ho), (fun i o ho => by cases ho), (fun i j o p ho => by cases ho), (fun i o ho => by cases ho), fun b h => ?_, hr.glob.mono (fun _ h => .inl h) hh⟩,
    ⟨hb.os, hb.tape, hb.output, hb.size, fun b h _ => hb.block b h, fun b h => ?_, fun _ h => .inl h, fun b h => ?_, Nat.le_refl _, (fun i o' _ ho => by cases ho), fun i o' ho => by cases ho⟩, x, he, .pure hx⟩
  · rcases h with h | h
    · exact Nat.lt_of_lt_of_le (hr.im b h) hb.size
    · exact h.2
  · unfold World.shape?
    rw [hb.block b h]
  · rcases h with h | h
    · exact .inl h
    · exact .inr (.inl h.1)
theorem VP.str_inv' {Im : Nat → Prop} {w : World} {s : List UInt8} {x : Value} (h : VP Im w (.str s) x) : x = .string ⟨s.toArray⟩ := by cases h; rfl
theorem VP.int_inv' {Im : Nat → Prop} {w : World} {k : IntKind} {n : Int} {x : Value} (h : VP Im w (.int k n) x) : x = .int k n := by cases h; rfl
/-- A table's cells. -/
theorem GlobOk.tab {Im : Nat → Prop} {w : World} (h : GlobOk Im w) {g : Nat} (hne : globTab g ≠ []) : ∃ C ty fz, w.heap[g]? = some (.cells C ty fz) ∧ C = ((globTab g).map fun p => Value.int p.1 p.2).toArray := by
  obtain ⟨_, C, ty, fz, h1, h2, h3⟩ := h.1 g (.agg ((globTab g).map fun p => .int p.1 p.2)) (by unfold globSV; split; exact absurd (by assumption) hne; rfl)
  refine ⟨C, ty, fz, h1, ?_⟩
  simp only [SV.cells, List.length_map] at h2
  apply Array.ext
  · simpa using h2.symm
  · intro i a b
    have hi : i < (globTab g).length := by omega
    have := h3 i (.int ((globTab g)[i]).1 ((globTab g)[i]).2) C[i] (by simp [SV.cells, hi]) (by simp)
    rw [VP.int_inv' this]
    simp
theorem GlobOk.var {Im : Nat → Prop} {w : World} (h : GlobOk Im w) {P : Program} {n : String} {g : Nat} (hne : globTab g ≠ []) (hg : P.globalNamed n = some g) : w.var? P n = some ((globTab g).map fun p => Value.int p.1 p.2).toArray := by
  obtain ⟨C, ty, fz, h1, rfl⟩ := h.tab hne
  unfold World.var?
  rw [hg, Option.bind_some, h1]
theorem GlobOk.cell {Im : Nat → Prop} {w : World} (h : GlobOk Im w) {g j : Nat} {p : IntKind × Int} (hj : (globTab g)[j]? = some p) : w.cell? ⟨g, j, none⟩ = some (.int p.1 p.2) := by
  obtain ⟨C, ty, fz, h1, rfl⟩ := h.tab (g := g) (by rintro h0; rw [h0] at hj; simp at hj)
  unfold World.cell?
  rw [h1]
  simp [hj]
theorem args1 {Im : Nat → Prop} {w : World} {xs : Array Value} {a : SV} {x : Value} (hs : xs.size = 1) (hv : ∀ (i : Nat) (u : SV) (y : Value), [a][i]? = some u → xs[i]? = some y → VP Im w u y) (ha : ∀ y, VP Im w a y → y = x) : xs = #[x] := by
  apply Array.ext
  · simpa using hs
  · intro i h1 h2
    obtain rfl : i = 0 := by simp at h2; omega
    exact ha _ (hv 0 a _ rfl (by simp [h1]))
theorem args2 {Im : Nat → Prop} {w : World} {xs : Array Value} {a b : SV} {x y : Value} (hs : xs.size = 2) (hv : ∀ (i : Nat) (u : SV) (y : Value), [a, b][i]? = some u → xs[i]? = some y → VP Im w u y) (ha : ∀ z, VP Im w a z → z = x) (hb : ∀ z, VP Im w b z → z = y) : xs = #[x, y] := by
  apply Array.ext
  · simpa using hs
  · intro i h1 h2
    rcases i with _ | _ | i
    · exact ha _ (hv 0 a _ rfl (by simp [h1]))
    · exact hb _ (hv 1 b _ rfl (by simp [h1]))
    · exfalso; simp at h2; omega
theorem args3 {Im : Nat → Prop} {w : World} {xs : Array Value} {a b c : SV} {x y z : Value} (hs : xs.size = 3) (hv : ∀ (i : Nat) (u : SV) (y : Value), [a, b, c][i]? = some u → xs[i]? = some y → VP Im w u y) (ha : ∀ z, VP Im w a z → z = x) (hb : ∀ z, VP Im w b z → z = y) (hc : ∀ u, VP Im w c u → u = z) : xs = #[x, y, z] := by
  apply Array.ext
  · simpa using hs
  · intro i h1 h2
    rcases i with _ | _ | _ | i
    · exact ha _ (hv 0 a _ rfl (by simp [h1]))
    · exact hb _ (hv 1 b _ rfl (by simp [h1]))
    · exact hc _ (hv 2 c _ rfl (by simp [h1]))
    · exfalso; simp at h2; omega
theorem below_grow {B : Nat} {a w : World} (os : Array Obj) (h : Below B a w) (hB : B ≤ w.heap.size) : Below B a (Sort.grow w os) := by
  refine ⟨h.os, h.tape, h.output, ?_, fun k hk => ?_⟩
  · show a.heap.size ≤ (w.heap ++ os).size
    have := h.size
    simp only [Array.size_append]; omega
  · show (w.heap ++ os)[k]? = _
    rw [Array.getElem?_append_left (by omega)]
    exact h.block k hk
end Ab
