/- Parts of the proof of PLexCalls, one behind the other. -/
import Derived.Test.YtlhpbcbkkbjhoaaGreatDoorM7
import Derived.OpenShut
import Derived.LaidSub
import Derived.LaidLaws
import Derived.KernelRfl
import Derived.Lib.ValidU
import Derived.Lib.TrimUEq
import Derived.Lib.MapLaws
import Derived.Lib.ParseIntB
import Derived.Below
import Derived.Sort.Grow
namespace Ab
open Go Go.RowKit
set_option linter.unusedVariables false
set_option linter.unusedSimpArgs false

theorem mapM_some {α β : Type} {f : α → Option β} : ∀ {l : List α} {ys : List β}, l.mapM f = some ys → ys.length = l.length ∧ ∀ (i : Nat) (x : α), l[i]? = some x → ∃ y, ys[i]? = some y ∧ f x = some y
  | [], ys, h => by simp at h; subst h; exact ⟨rfl, fun i x hx => by simp at hx⟩
  | a :: l, ys, h => by
    rw [List.mapM_cons] at h
    cases hf : f a with
    | none => rw [hf] at h; cases h
    | some b =>
      cases hl : l.mapM f with
      | none => rw [hf, hl] at h; cases h
      | some bs =>
        rw [hf, hl] at h
        have h' : some (b :: bs) = some ys := h
        cases h'
        obtain ⟨h1, h2⟩ := mapM_some hl
        refine ⟨by simp [h1], fun i x hx => ?_⟩
        cases i with
        | zero => simp at hx; subst hx; exact ⟨b, rfl, hf⟩
        | succ i => simp at hx; obtain ⟨y, hy, hfy⟩ := h2 i x hx; exact ⟨y, by simpa using hy, hfy⟩

def CR2 (w : World) (svs : List SV) (cs : List Value) : Prop := cs.length = svs.length ∧ ∀ (j : Nat) (u : SV) (y : Value), svs[j]? = some u → cs[j]? = some y → VP (fun b => b < w.heap.size) w u y

/-- How values of a type that were read are told: what they are read as, and the cells of that. -/
structure Rd (P : Program) (t : TypeId) (α : Type) where
  sv : α → List SV
  ok : α → Prop
  sz : Nat
  szof : P.cellsOf t = sz
  len : ∀ x, (sv x).length = sz
  rich : α → Prop
  rd : ∀ {H : Type} {enc : TypeId × Value → H} {w : World} {base : Nat} {spare : Nat → Bool} {held : Bool} {fuel : Nat} {cs : List Value} {d : DataW H} {ps : List MemPlace},
    DataW.trod enc P w base spare held fuel t cs = some (d, ps) → ∃ x, ok x ∧ ((d.weights P t).all (· ≤ reachBytes) = true → rich x) ∧ CR2 w (sv x) cs

theorem cr2_one {w : World} {u : SV} {y : Value} (h : VP (fun b => b < w.heap.size) w u y) : CR2 w [u] [y] := by
  refine ⟨rfl, fun j u' y' h1 h2 => ?_⟩
  cases j with
  | zero => simp at h1 h2; subst h1; subst h2; exact h
  | succ j => simp at h1

section
variable {P : Program} {t : TypeId}
def Rd.int {k : IntKind} (hu : P.underlying t = some (.int k)) (hc : P.cellsOf t = 1) : Rd P t Int where
  sv n := [.int k n]
  ok n := k.min ≤ n ∧ n ≤ k.max
  rich _ := True
  sz := 1
  szof := hc
  len _ := rfl
  rd {H enc w base spare held fuel cs d ps} h := by
    cases fuel with
    | zero => simp [DataW.trod] at h
    | succ fuel =>
      unfold DataW.trod at h
      rw [hu] at h
      split at h <;> (try rename_i he; try (cases he)) <;> try cases h
      rename_i k' n
      split at h
      · rename_i hk
        obtain ⟨rfl, hwf⟩ := hk
        simp only [Lit.wf, Bool.and_eq_true, decide_eq_true_eq] at hwf
        exact ⟨n, hwf, fun _ => trivial, cr2_one (.int _ _)⟩
      · cases h
def Rd.bool (hu : P.underlying t = some .bool) (hc : P.cellsOf t = 1) : Rd P t Bool where
  sv b := [.bool b]
  ok _ := True
  rich _ := True
  sz := 1
  szof := hc
  len _ := rfl
  rd {H enc w base spare held fuel cs d ps} h := by
    cases fuel with
    | zero => simp [DataW.trod] at h
    | succ fuel =>
      unfold DataW.trod at h
      rw [hu] at h
      split at h <;> (try rename_i he; try (cases he)) <;> try cases h
      exact ⟨_, trivial, fun _ => trivial, cr2_one (.bool _)⟩
def Rd.str (hu : P.underlying t = some .string) (hc : P.cellsOf t = 1) : Rd P t (List UInt8) where
  sv s := [.str s]
  ok s := s.length ≤ 9223372036854775807
  rich s := s.length ≤ 140737488351232
  sz := 1
  szof := hc
  len _ := rfl
  rd {H enc w base spare held fuel cs d ps} h := by
    cases fuel with
    | zero => simp [DataW.trod] at h
    | succ fuel =>
      unfold DataW.trod at h
      rw [hu] at h
      split at h <;> (try rename_i he; try (cases he)) <;> try cases h
      rename_i s
      split at h
      · rename_i hs
        refine ⟨s.data.toList, ?_, fun hw => ?_, cr2_one ?_⟩
        · have e : s.data.toList.length = s.size := by rw [Array.length_toList]; rfl
          unfold maxLen at hs
          omega
        · cases h
          have e : s.data.toList.length = s.size := by rw [Array.length_toList]; rfl
          have hw' := of_decide_eq_true (List.all_eq_true.1 hw _ (List.mem_singleton.2 rfl))
          unfold reachBytes at hw'
          have e3 : s.toList.length = s.data.toList.length := by rw [ByteArray.toList_eq]
          omega
        · have := VP.str (Im := fun b => b < w.heap.size) (w := w) s.data.toList
          simpa using this
      · cases h

/-- The fields of a struct, one behind the other. -/
structure RdF (P : Program) (fs : List Field) (off : Nat) (α : Type) where
  sv : α → List SV
  ok : α → Prop
  sz : Nat
  len : ∀ x, (sv x).length = sz
  rich : α → Prop
  rd : ∀ {H : Type} {enc : TypeId × Value → H} {w : World} {base : Nat} {spare : Nat → Bool} {held : Bool} {fuel : Nat} {cs : List Value} {xs : List (DataW H × List MemPlace)},
    fs.mapM (fun f => DataW.trod enc P w base spare held fuel f.type ((cs.drop f.offset).take (P.cellsOf f.type))) = some xs → ∃ x, ok x ∧ ((DataW.weightsEach P (fs.map (·.type)) (xs.map (·.1))).all (· ≤ reachBytes) = true → rich x) ∧ ∀ (j : Nat) (u : SV) (y : Value), (sv x)[j]? = some u → cs[off + j]? = some y → VP (fun b => b < w.heap.size) w u y
def RdF.nil {off : Nat} : RdF P [] off Unit where
  sv _ := []
  ok _ := True
  rich _ := True
  sz := 0
  len _ := rfl
  rd _ := ⟨(), trivial, fun _ => trivial, fun j u y h => by simp at h⟩
def RdF.cons {f : Field} {fs : List Field} {off : Nat} {α β : Type} (r : Rd P f.type α) (ho : f.offset = off) (rest : RdF P fs (off + r.sz) β) : RdF P (f :: fs) off (α × β) where
  sv x := r.sv x.1 ++ rest.sv x.2
  ok x := r.ok x.1 ∧ rest.ok x.2
  rich x := r.rich x.1 ∧ rest.rich x.2
  sz := r.sz + rest.sz
  len x := by rw [List.length_append, r.len, rest.len]
  rd {H enc w base spare held fuel cs xs} h := by
    rw [List.mapM_cons] at h
    cases hf : DataW.trod enc P w base spare held fuel f.type ((cs.drop f.offset).take (P.cellsOf f.type)) with
    | none => rw [hf] at h; cases h
    | some b =>
      cases hl : fs.mapM (fun f => DataW.trod enc P w base spare held fuel f.type ((cs.drop f.offset).take (P.cellsOf f.type))) with
      | none => rw [hf, hl] at h; cases h
      | some bs =>
        obtain ⟨x, hx, hwx, hlen, hcr⟩ := r.rd (d := b.1) (ps := b.2) hf
        obtain ⟨y, hy, hwy, hcr'⟩ := rest.rd hl
        have hxs : b :: bs = xs := by rw [hf, hl] at h; exact Option.some.inj h
        subst hxs
        refine ⟨(x, y), ⟨hx, hy⟩, fun hw => ?_, fun j u z hu hz => ?_⟩
        · simp only [List.map_cons, DataW.weightsEach, List.all_append, Bool.and_eq_true] at hw
          exact ⟨hwx hw.1, hwy hw.2⟩
        rw [List.getElem?_append] at hu
        rw [r.len] at hu
        by_cases hj : j < r.sz
        · rw [if_pos hj] at hu
          refine hcr j u z hu ?_
          rw [List.getElem?_take, r.szof, if_pos hj, List.getElem?_drop, ho]
          exact hz
        · rw [if_neg hj] at hu
          refine hcr' (j - r.sz) u z hu ?_
          rw [← hz]
          congr 1
          omega
def Rd.struct {fs : Array Field} {α : Type} (hu : P.underlying t = some (.struct fs)) (rf : RdF P fs.toList 0 α) (hc : P.cellsOf t = rf.sz) : Rd P t α where
  sv := rf.sv
  ok := rf.ok
  rich := rf.rich
  sz := rf.sz
  szof := hc
  len := rf.len
  rd {H enc w base spare held fuel cs d ps} h := by
    cases fuel with
    | zero => simp [DataW.trod] at h
    | succ fuel =>
      unfold DataW.trod at h
      rw [hu] at h
      dsimp only at h
      split at h
      · rename_i hlen
        cases hm : fs.toList.mapM (fun f => DataW.trod enc P w base spare held fuel f.type ((cs.drop f.offset).take (P.cellsOf f.type))) with
        | none => rw [hm] at h; cases h
        | some xs =>
          obtain ⟨x, hx, hwx, hcr⟩ := rf.rd hm
          rw [hm] at h
          have hd : d = .agg (xs.map (·.1)) := by cases h; rfl
          exact ⟨x, hx, fun hw => hwx (by rw [hd] at hw; simp only [DataW.weights, hu] at hw; exact hw), by rw [hlen, hc, rf.len], fun j u y h1 h2 => hcr j u y h1 (by rw [Nat.zero_add]; exact h2)⟩
      · cases h

/-- The same values, told in other words. -/
def Rd.map {α β : Type} (r : Rd P t α) (g : α → β) (sv : β → List SV) (ok : β → Prop) (h1 : ∀ x, r.sv x = sv (g x)) (h2 : ∀ x, r.ok x → ok (g x)) (h3 : ∀ y, (sv y).length = r.sz) : Rd P t β where
  sv := sv
  ok := ok
  rich y := ∃ x, g x = y ∧ r.rich x
  sz := r.sz
  szof := r.szof
  len := h3
  rd h := by
    obtain ⟨x, hx, hw, hc⟩ := r.rd h
    exact ⟨g x, h2 x hx, fun h => ⟨x, rfl, hw h⟩, h1 x ▸ hc⟩

theorem cells_at {w : World} {base : Nat} {a : Addr} {n : Nat} {cs : List Value} (h : w.cells? base a n = some cs) : cs.length = n ∧ ∀ j, j < n → ∃ y, cs[j]? = some y ∧ w.cell? (a.add j) = some y := by
  unfold World.cells? at h
  split at h
  · obtain ⟨h1, h2⟩ := mapM_some h
    rw [List.length_range] at h1
    refine ⟨h1, fun j hj => ?_⟩
    exact h2 j j (by rw [List.getElem?_range hj])
  · cases h

theorem weightsAll_at {H : Type} {e : TypeId} : ∀ {l : List (DataW H)}, (DataW.weightsAll P e l).all (· ≤ reachBytes) = true → ∀ {i : Nat} {d : DataW H}, l[i]? = some d → (d.weights P e).all (· ≤ reachBytes) = true
  | [], _, i, d, h => by simp at h
  | d0 :: l, hw, i, d, h => by
    simp only [DataW.weightsAll, List.all_append, Bool.and_eq_true] at hw
    cases i with
    | zero => simp at h; subst h; exact hw.1
    | succ i => exact weightsAll_at hw.2 (by simpa using h)
def Rd.slice {e : TypeId} {α : Type} (hu : P.underlying t = some (.slice e)) (hc : P.cellsOf t = 1) (r : Rd P e α) (hsz : 0 < r.sz) (mk : α → SV) (hmk : ∀ x, (mk x).cells = r.sv x) (dflt : α) : Rd P t (List α) where
  sv l := [.lst r.sz l.length fun i => mk (l.getD i dflt)]
  ok l := (∀ x ∈ l, r.ok x) ∧ l.length ≤ 9223372036854775807
  rich l := (∀ x ∈ l, r.rich x) ∧ l.length * P.bytesOf e ≤ 140737488351232
  sz := 1
  szof := hc
  len _ := rfl
  rd {H enc w base spare held fuel cs d ps} h := by
    cases fuel with
    | zero => simp [DataW.trod] at h
    | succ fuel =>
      unfold DataW.trod at h
      rw [hu] at h
      split at h <;> (try rename_i he; try (cases he)) <;> try cases h
      · exact ⟨[], ⟨(fun x hx => by cases hx), Nat.zero_le _⟩, fun _ => ⟨(fun x hx => by cases hx), by simp⟩, cr2_one (.lst0 _ _ _ _)⟩
      · rename_i a len cap
        dsimp only at h
        split at h
        · rename_i hcond
          obtain ⟨hb, hlc, hcm⟩ := hcond
          cases hm : (List.range len).mapM (fun i => (w.cells? base (a.add (i * P.cellsOf e)) (P.cellsOf e)).bind (DataW.trod enc P w base spare held fuel e)) with
          | none => rw [hm] at h; cases h
          | some elems =>
            obtain ⟨h1, h2⟩ := mapM_some hm
            have hel : ∀ i, i < len → ∃ x ci, (r.ok x ∧ ∀ y, elems[i]? = some y → (y.1.weights P e).all (· ≤ reachBytes) = true → r.rich x) ∧ CR2 w (r.sv x) ci ∧ w.cells? base (a.add (i * r.sz)) r.sz = some ci := by
              intro i hi
              obtain ⟨y, hyi, hy⟩ := h2 i i (by rw [List.getElem?_range hi])
              rw [r.szof] at hy
              cases hci : w.cells? base (a.add (i * r.sz)) r.sz with
              | none => rw [hci] at hy; cases hy
              | some ci =>
                rw [hci] at hy
                obtain ⟨x, hx, hwx, hcr⟩ := r.rd (d := y.1) (ps := y.2) hy
                exact ⟨x, ci, ⟨hx, fun y' hy' hw => hwx (by rw [hyi] at hy'; cases hy'; exact hw)⟩, hcr, rfl⟩
            classical
            let f : Nat → α := fun i => if hi : i < len then Classical.choose (hel i hi) else dflt
            have hf : ∀ i, i < len → ∃ ci, (r.ok (f i) ∧ ∀ y, elems[i]? = some y → (y.1.weights P e).all (· ≤ reachBytes) = true → r.rich (f i)) ∧ CR2 w (r.sv (f i)) ci ∧ w.cells? base (a.add (i * r.sz)) r.sz = some ci := fun i hi => by
              have e1 : f i = Classical.choose (hel i hi) := by simp only [f]; rw [dif_pos hi]
              rw [e1]
              exact Classical.choose_spec (hel i hi)
            have hgetD : ∀ i, i < len → ((List.range len).map f).getD i dflt = f i := fun i hi => by simp [List.getD, hi]
            have hlen : ((List.range len).map f).length = len := by simp
            refine ⟨(List.range len).map f, ⟨fun x hx => ?_, by rw [hlen]; unfold maxLen at hcm; omega⟩, fun hw => ?_, cr2_one ?_⟩
            · obtain ⟨i, hi, rfl⟩ := List.mem_map.1 hx
              exact (hf i (List.mem_range.1 hi)).choose_spec.1.1
            · rw [hm] at h
              have hel2 : elems.length = len := by rw [h1, List.length_range]
              have hd : ∃ sp, d = .slice (elems.map (·.1)) sp := by
                simp only [Option.bind_eq_bind, Option.bind_some] at h
                obtain ⟨sp, _, h⟩ := Option.map_eq_some_iff.1 h
                exact ⟨_, (Prod.mk.inj h).1.symm⟩
              obtain ⟨sp, rfl⟩ := hd
              simp only [DataW.weights, hu, List.all_cons, List.all_append, Bool.and_eq_true, List.length_map, decide_eq_true_eq] at hw
              refine ⟨fun x hx => ?_, ?_⟩
              · obtain ⟨i, hi, rfl⟩ := List.mem_map.1 hx
                have hi := List.mem_range.1 hi
                obtain ⟨ci, hok, _⟩ := hf i hi
                refine hok.2 elems[i] (List.getElem?_eq_getElem (by omega)) ?_
                exact weightsAll_at hw.2.1 (i := i) (by rw [List.getElem?_map, List.getElem?_eq_getElem (by omega)]; rfl)
              · rw [hlen]
                have hw1 := hw.1
                rw [hel2] at hw1
                have : len * P.bytesOf e ≤ (len + sp.length) * P.bytesOf e := Nat.mul_le_mul_right _ (by omega)
                unfold reachBytes at hw1
                omega
            · rw [hlen]
              rcases Nat.eq_zero_or_pos len with h0 | h0
              · subst h0; exact .lst0 _ _ _ _
              · -- the block
                have hcell : ∀ i j, i < len → j < r.sz → ∃ y, w.cell? ((a.add (i * r.sz)).add j) = some y ∧ ∀ u, (r.sv (f i))[j]? = some u → VP (fun b => b < w.heap.size) w u y := by
                  intro i j hi hj
                  obtain ⟨ci, _, hcr, hci⟩ := hf i hi
                  obtain ⟨hl, hat⟩ := cells_at hci
                  obtain ⟨y, hy, hw⟩ := hat j hj
                  exact ⟨y, hw, fun u hu => hcr.2 j u y hu hy⟩
                obtain ⟨y0, hw0, _⟩ := hcell 0 0 h0 hsz
                have hspot : a.spot = none := by
                  cases hs : a.spot with
                  | none => rfl
                  | some p =>
                    exfalso
                    simp only [Nat.zero_mul, Addr.add, hs] at hw0
                    unfold World.cell? at hw0
                    split at hw0
                    · simp at hw0
                      rw [hs] at hw0
                      cases hw0.1
                    · cases hw0
                obtain ⟨b, off, sp⟩ := a
                simp only at hspot
                subst hspot
                have hadd : ∀ i j, ((⟨b, off, none⟩ : Addr).add (i * r.sz)).add j = ⟨b, off + i * r.sz + j, none⟩ := fun i j => by rw [add_eq, add_eq]
                rw [hadd] at hw0
                unfold World.cell? at hw0
                split at hw0
                · rename_i C ty fz hC
                  have hall : ∀ i j, i < len → j < r.sz → ∃ y, C[off + i * r.sz + j]? = some y ∧ ∀ u, (r.sv (f i))[j]? = some u → VP (fun b => b < w.heap.size) w u y := by
                    intro i j hi hj
                    obtain ⟨y, hw, hv⟩ := hcell i j hi hj
                    rw [hadd] at hw
                    simp only [World.cell?, hC, Option.isSome_none] at hw
                    exact ⟨y, by simpa using hw, hv⟩
                  have hblt : b < w.heap.size := by
                    rcases Nat.lt_or_ge b w.heap.size with hh | hh
                    · exact hh
                    · rw [Array.getElem?_eq_none hh] at hC; cases hC
                  refine .lst _ _ _ b off cap C ty fz hblt hC ?_ hlc (fun i hi => by rw [hmk, r.len]) fun i j v x hi hv hx => ?_
                  · obtain ⟨y, hy, _⟩ := hall (len - 1) (r.sz - 1) (by omega) (by omega)
                    have hlt : off + (len - 1) * r.sz + (r.sz - 1) < C.size := by
                      rcases Nat.lt_or_ge (off + (len - 1) * r.sz + (r.sz - 1)) C.size with hh | hh
                      · exact hh
                      · rw [Array.getElem?_eq_none hh] at hy; cases hy
                    have e1 : len * r.sz = (len - 1) * r.sz + r.sz := by
                      rw [← Nat.succ_mul]; congr 1; omega
                    omega
                  · rw [hmk, hgetD i hi] at hv
                    have hj : j < r.sz := by rw [← r.len (f i)]; exact getq_lt hv
                    obtain ⟨y, hy, hvp⟩ := hall i j hi hj
                    rw [hy] at hx; cases hx
                    exact hvp v hv
                · cases hw0
        · cases h

/-- One argument, of one cell. -/
theorem Rd.one {α : Type} (r : Rd P t α) {H : Type} {enc : TypeId × Value → H} {w : World} {base : Nat} {spare : Nat → Bool} {held : Bool} {v : Value} {d : DataW H} {ps : List MemPlace} (h : DataW.Trod enc P w base spare held t v d ps) (mk : α → SV) (h1 : ∀ x, r.sv x = [mk x]) (hna : ∀ cs, v ≠ .agg cs) :
    ∃ x, r.ok x ∧ VP (fun b => b < w.heap.size) w (mk x) v := by
  obtain ⟨fuel, hf⟩ := h
  obtain ⟨x, hx, _, _, hcr⟩ := r.rd hf
  refine ⟨x, hx, hcr 0 (mk x) v (by rw [h1]; rfl) ?_⟩
  cases v <;> first | rfl | exact absurd rfl (hna _)
/-- One argument, a struct. -/
theorem Rd.agg {α : Type} (r : Rd P t α) {fs : Array Field} (hu : P.underlying t = some (.struct fs)) {H : Type} {enc : TypeId × Value → H} {w : World} {base b0 : Nat} {spare : Nat → Bool} {held : Bool} {v : Value} {d : DataW H} {ps : List MemPlace} {rr : Reach} (hv : Value.okWide P w rr b0 t v)
    (h : DataW.Trod enc P w base spare held t v d ps) : ∃ x, r.ok x ∧ VP (fun b => b < w.heap.size) w (.agg (r.sv x)) v := by
  obtain ⟨fuel, hf⟩ := h
  obtain ⟨x, hx, _, hl, hcr⟩ := r.rd hf
  unfold Value.okWide at hv
  rw [hu] at hv
  obtain ⟨cs, rfl, hcs, _⟩ := hv
  have e : Value.cells (.agg cs) = cs := rfl
  rw [e] at hl hcr
  exact ⟨x, hx, .agg _ _ (by simpa using hl) fun i u y h1 h2 => hcr i u y h1 (by simpa using h2)⟩
theorem Rd.one' {α : Type} (r : Rd P t α) {H : Type} {enc : TypeId × Value → H} {w : World} {base : Nat} {spare : Nat → Bool} {held : Bool} {v : Value} {d : DataW H} {ps : List MemPlace} (h : DataW.Trod enc P w base spare held t v d ps) (mk : α → SV) (h1 : ∀ x, r.sv x = [mk x]) (hna : ∀ cs, v ≠ .agg cs) (hw : (d.weights P t).all (· ≤ reachBytes) = true) :
    ∃ x, (r.ok x ∧ r.rich x) ∧ VP (fun b => b < w.heap.size) w (mk x) v := by
  obtain ⟨fuel, hf⟩ := h
  obtain ⟨x, hx, hr, _, hcr⟩ := r.rd hf
  refine ⟨x, ⟨hx, hr hw⟩, hcr 0 (mk x) v (by rw [h1]; rfl) ?_⟩
  cases v <;> first | rfl | exact absurd rfl (hna _)
theorem Rd.agg' {α : Type} (r : Rd P t α) {fs : Array Field} (hu : P.underlying t = some (.struct fs)) {H : Type} {enc : TypeId × Value → H} {w : World} {base b0 : Nat} {spare : Nat → Bool} {held : Bool} {v : Value} {d : DataW H} {ps : List MemPlace} {rr : Reach} (hv : Value.okWide P w rr b0 t v)
    (h : DataW.Trod enc P w base spare held t v d ps) (hw : (d.weights P t).all (· ≤ reachBytes) = true) : ∃ x, (r.ok x ∧ r.rich x) ∧ VP (fun b => b < w.heap.size) w (.agg (r.sv x)) v := by
  obtain ⟨fuel, hf⟩ := h
  obtain ⟨x, hx, hr, hl, hcr⟩ := r.rd hf
  unfold Value.okWide at hv
  rw [hu] at hv
  obtain ⟨cs, rfl, hcs, _⟩ := hv
  have e : Value.cells (.agg cs) = cs := rfl
  rw [e] at hl hcr
  exact ⟨x, ⟨hx, hr hw⟩, .agg _ _ (by simpa using hl) fun i u y h1 h2 => hcr i u y h1 (by simpa using h2)⟩
theorem not_agg {k : TypeDesc} (hu : P.underlying t = some k) (hk : (match k with | .struct _ | .array _ _ => false | _ => true) = true) {w : World} {rr : Reach} {b0 : Nat} {v : Value} (hv : Value.okWide P w rr b0 t v) {H : Type} {enc : TypeId × Value → H} {base : Nat} {spare : Nat → Bool} {held : Bool}
    {d : DataW H} {ps : List MemPlace} (h : DataW.Trod enc P w base spare held t v d ps) : ∀ cs, v ≠ .agg cs := by
  intro cs hcs
  subst hcs
  unfold Value.okWide at hv
  rw [hu] at hv
  cases k <;> simp at hk <;> simp [Cell.okWide, Cell.ok, hu] at hv
end

/-- The arguments read behind the call as they did before. -/
theorem below_all {H : Type} {enc : TypeId × Value → H} {P : Program} (hl : laidOutB P = true) {W W' : World} (hb : Below W.heap.size W W') : ∀ {ts : List TypeId} {vs : List Value} {ds : List (DataW H)} {ps : List MemPlace},
    (ts.all fun t => P.readableRec t && decide (t < P.types.size)) = true → DataW.TrodAll enc P W 0 (fun _ => true) true ts vs ds ps → (∀ x ∈ ps, x.block < W.heap.size) → DataW.TrodAll enc P W' 0 (fun b => decide (b < W.heap.size)) true ts vs ds ps
  | [], [], [], ps, _, h, _ => h
  | t :: ts, v :: vs, d :: ds, ps, hall, ⟨p, q, h1, h2, he⟩, hlt => by
    subst he
    simp only [List.all_cons, Bool.and_eq_true, decide_eq_true_eq] at hall
    exact ⟨p, q, Below.trod hl hall.1.1 hall.1.2 h1 hb (fun x hx => hlt x (by simp [hx])), below_all hl hb hall.2 h2 (fun x hx => hlt x (by simp [hx])), rfl⟩
end Ab
namespace Ab
open Go
theorem LaidVars_mem {P : Program} {w : World} {n : String} {d : DataW Unit} : ∀ {l : List (String × DataW Unit)} {ps : List MemPlace}, DataW.LaidVars P w l ps → (n, d) ∈ l →
    ∃ g t cs fuel p enc, P.globalNamed n = some g ∧ (P.globals[g]?).map (·.type) = some t ∧ w.var? P n = some cs ∧ DataW.trod enc P w 0 (fun _ => true) false fuel t cs.toList = some (d, p)
  | [], _, _, hm => by cases hm
  | (n', d') :: r, ps, h, hm => by
    obtain ⟨g, t, cs, fuel, p, q, e1, e2, e3, e4, hr, rfl⟩ := h
    rcases List.mem_cons.1 hm with he | hm
    · cases he
      exact ⟨g, t, cs, fuel, p, _, e1, e2, e3, e4⟩
    · exact LaidVars_mem hr hm
theorem table_laid {P : Program} {w : World} {laid : List (String × DataW Unit)} (h : laidMetH P laid w) {n : String} {l : List (IntKind × Int)} (hm : (n, DataW.agg (l.map fun p => DataW.lit (.int p.1 p.2))) ∈ laid)
    {g t el m : Nat} {k : IntKind} (hg : P.globalNamed n = some g) (ht : (P.globals[g]?).map (·.type) = some t) (hu : P.underlying t = some (.array m el)) (hk : P.underlying el = some (.int k)) (c1 : P.cellsOf el = 1) (hml : m = l.length) (hct : P.cellsOf t = l.length) :
    ∃ C ty fz, w.heap[g]? = some (.cells C ty fz) ∧ l.length = C.size ∧ ∀ (j : Nat) (p : IntKind × Int), l[j]? = some p → C[j]? = some (.int p.1 p.2) := by
  obtain ⟨⟨ps, hl, _⟩, _⟩ := laidMetH_iff.1 h
  obtain ⟨g', t', cs, fuel, p, enc, e1, e2, e3, e4⟩ := LaidVars_mem hl (List.mem_filter.2 ⟨hm, rfl⟩)
  obtain rfl := Option.some.inj (hg.symm.trans e1)
  obtain rfl := Option.some.inj (ht.symm.trans e2)
  obtain ⟨xs, f, _, ex, hcl, hlen, hel⟩ := DataW.trod_array hu e4
  have hx : xs.map (·.1) = l.map fun p => (DataW.lit (.int p.1 p.2) : DataW Unit) := (DataW.agg.inj (Prod.mk.inj ex).1).symm
  simp only [World.var?, hg, Option.bind_some] at e3
  have cell : ∀ j, j < m → ∃ (p : IntKind × Int), l[j]? = some p ∧ cs[j]? = some (.int p.1 p.2) := fun j hj => by
    have hE := hel j hj
    rw [c1, Nat.mul_one, List.getElem?_eq_getElem (by omega)] at hE
    obtain ⟨z, h1, h2, _⟩ := DataW.trod_int hk hE
    have h3 : (xs.map (·.1))[j]? = some (DataW.lit (.int k z)) := by rw [List.getElem?_map, List.getElem?_eq_getElem (by omega), Option.map_some, h2]
    rw [hx, List.getElem?_map] at h3
    obtain ⟨p, hp, h4⟩ := Option.map_eq_some_iff.1 h3
    simp only [DataW.lit.injEq, Lit.int.injEq] at h4
    refine ⟨p, hp, ?_⟩
    have h0 : ((cs.toList.drop j).take 1)[0]? = some (.int k z) := by rw [h1]; rfl
    rw [h4.1, h4.2]
    simpa using h0
  split at e3
  · rename_i C ty fz hw
    cases e3
    refine ⟨_, ty, fz, hw, ?_, fun j p hp => ?_⟩
    · rw [← hct, ← hcl]; simp
    · have hj : j < m := by have := (List.getElem?_eq_some_iff.1 hp).1; omega
      obtain ⟨p', h1, h2⟩ := cell j hj
      rw [hp] at h1; cases h1
      exact h2
  · cases e3

theorem globOk_of {Im : Nat → Prop} {w : World} (h : ∀ g, globTab g ≠ [] → Im g ∧ ∃ C ty fz, w.heap[g]? = some (.cells C ty fz) ∧ (globTab g).length = C.size ∧ ∀ (j : Nat) (p : IntKind × Int), (globTab g)[j]? = some p → C[j]? = some (.int p.1 p.2)) 
    (h2 : ∀ g, g ∈ globIf → Im g ∧ ∃ v ty fz, w.heap[g]? = some (.cells #[v] ty fz) ∧ (v = .nilIface ∨ ∃ te pe, v = .iface te pe) := by intro g hg; cases hg) : GlobOk Im w := by
  refine ⟨fun g v hg => ?_, h2⟩
  unfold globSV at hg
  split at hg
  · cases hg
  · rename_i hne
    cases hg
    obtain ⟨h1, C, ty, fz, h2, h3, h4⟩ := h g hne
    refine ⟨h1, C, ty, fz, h2, by simpa [SV.cells] using h3, fun j u x hu hx => ?_⟩
    simp only [SV.cells, List.getElem?_map] at hu
    obtain ⟨p, hp, rfl⟩ := Option.map_eq_some_iff.1 hu
    rw [h4 j p hp] at hx
    cases hx
    exact .int _ _
end Ab
namespace Ab
open Go
def pairs {α : Type} : List α → List (α × α)
  | a :: b :: r => (a, b) :: pairs r
  | _ => []
def evenL {α : Type} : List α → Bool
  | [] => true
  | [_] => false
  | _ :: _ :: r => evenL r
theorem pairs_len {α : Type} : ∀ {l : List α}, evenL l = true → l.length = 2 * (pairs l).length
  | [], _ => rfl
  | [_], h => by cases h
  | _ :: _ :: r, h => by
    have := pairs_len (l := r) h
    simp only [pairs, List.length_cons]
    omega
theorem pairs_get {α : Type} : ∀ {l : List α} {j : Nat} {p : α}, evenL l = true → l[j]? = some p → ∃ q : α × α, (pairs l)[j / 2]? = some q ∧ (j % 2 = 0 ∧ p = q.1 ∨ j % 2 = 1 ∧ p = q.2)
  | [], _, _, _, h => by simp at h
  | [_], _, _, h, _ => by cases h
  | a :: b :: r, 0, p, _, h => ⟨(a, b), rfl, .inl ⟨rfl, by simpa using h.symm⟩⟩
  | a :: b :: r, 1, p, _, h => ⟨(a, b), rfl, .inr ⟨rfl, by simpa using h.symm⟩⟩
  | a :: b :: r, j + 2, p, he, h => by
    obtain ⟨q, h1, h2⟩ := pairs_get (l := r) (j := j) he (by simpa using h)
    refine ⟨q, ?_, ?_⟩
    · rw [show (j + 2) / 2 = j / 2 + 1 by omega]
      simpa [pairs] using h1
    · rw [show (j + 2) % 2 = j % 2 by omega]
      exact h2
theorem table2_laid {P : Program} {w : World} {laid : List (String × DataW Unit)} (h : laidMetH P laid w) {n : String} {l : List (IntKind × Int)} (hev : evenL l = true)
    (hm : (n, DataW.agg ((pairs l).map fun p => DataW.agg [DataW.lit (.int p.1.1 p.1.2), DataW.lit (.int p.2.1 p.2.2)])) ∈ laid)
    {g t el m : Nat} {k0 k1 : IntKind} {f0 f1 : Field} (hg : P.globalNamed n = some g) (ht : (P.globals[g]?).map (·.type) = some t) (hu : P.underlying t = some (.array m el)) (hs : P.underlying el = some (.struct #[f0, f1]))
    (hk0 : P.underlying f0.type = some (.int k0)) (hk1 : P.underlying f1.type = some (.int k1)) (c2 : P.cellsOf el = 2) (o0 : f0.offset = 0) (o1 : f1.offset = 1) (c0 : P.cellsOf f0.type = 1) (c1 : P.cellsOf f1.type = 1) (hml : 2 * m = l.length) (hct : P.cellsOf t = l.length) :
    ∃ C ty fz, w.heap[g]? = some (.cells C ty fz) ∧ l.length = C.size ∧ ∀ (j : Nat) (p : IntKind × Int), l[j]? = some p → C[j]? = some (.int p.1 p.2) := by
  obtain ⟨⟨ps, hl, _⟩, _⟩ := laidMetH_iff.1 h
  obtain ⟨g', t', cs, fuel, p, enc, e1, e2, e3, e4⟩ := LaidVars_mem hl (List.mem_filter.2 ⟨hm, rfl⟩)
  obtain rfl := Option.some.inj (hg.symm.trans e1)
  obtain rfl := Option.some.inj (ht.symm.trans e2)
  obtain ⟨xs, f, _, ex, hcl, hlen, hel⟩ := DataW.trod_array hu e4
  have hx : xs.map (·.1) = (pairs l).map fun p => (DataW.agg [DataW.lit (.int p.1.1 p.1.2), DataW.lit (.int p.2.1 p.2.2)] : DataW Unit) := (DataW.agg.inj (Prod.mk.inj ex).1).symm
  simp only [World.var?, hg, Option.bind_some] at e3
  have cell : ∀ j, j < m → ∃ (p : (IntKind × Int) × (IntKind × Int)), (pairs l)[j]? = some p ∧ cs[2 * j]? = some (.int p.1.1 p.1.2) ∧ cs[2 * j + 1]? = some (.int p.2.1 p.2.2) := fun j hj => by
    have hE := hel j hj
    rw [c2, List.getElem?_eq_getElem (by omega)] at hE
    obtain ⟨y0, y1, n, h1, _, h2, h3⟩ := Go.ChangeShapes.trod_struct2 hs hE
    rw [o0, c0] at h2
    rw [o1, c1] at h3
    obtain ⟨z0, a1, a2, _⟩ := DataW.trod_int hk0 h2
    obtain ⟨z1, b1, b2, _⟩ := DataW.trod_int hk1 h3
    have h4 : (xs.map (·.1))[j]? = some (DataW.agg [DataW.lit (.int k0 z0), DataW.lit (.int k1 z1)]) := by
      rw [List.getElem?_map, List.getElem?_eq_getElem (by omega), Option.map_some, h1, a2, b2]
    rw [hx, List.getElem?_map] at h4
    obtain ⟨p, hp, h5⟩ := Option.map_eq_some_iff.1 h4
    simp only [DataW.agg.injEq, List.cons.injEq, DataW.lit.injEq, Lit.int.injEq, and_true] at h5
    obtain ⟨⟨q1, q2⟩, q3, q4⟩ := h5
    refine ⟨p, hp, ?_, ?_⟩
    · have h0 : ((((cs.toList.drop (j * 2)).take 2).drop 0).take 1)[0]? = some (.int k0 z0) := by rw [a1]; rfl
      rw [q1, q2, Nat.mul_comm]
      simpa using h0
    · have h0 : ((((cs.toList.drop (j * 2)).take 2).drop 1).take 1)[0]? = some (.int k1 z1) := by rw [b1]; rfl
      rw [q3, q4, Nat.mul_comm]
      simpa using h0
  split at e3
  · rename_i C ty fz hw
    cases e3
    refine ⟨_, ty, fz, hw, ?_, fun j p hp => ?_⟩
    · rw [← hct, ← hcl]; simp
    · have hj : j < l.length := (List.getElem?_eq_some_iff.1 hp).1
      obtain ⟨p', h1, h2, h3⟩ := cell (j / 2) (by omega)
      obtain ⟨q, h4, h5⟩ := pairs_get hev hp
      rw [h4] at h1; cases h1
      rcases h5 with ⟨h5, rfl⟩ | ⟨h5, rfl⟩
      · rw [show 2 * (j / 2) = j by omega] at h2; exact h2
      · rw [show 2 * (j / 2) + 1 = j by omega] at h3; exact h3
  · cases e3
end Ab
namespace Ab
open Go
theorem iface_laid {P : Program} {w : World} {laid : List (String × DataW Unit)} (h : laidMetH P laid w) {n nm : String} {D d : DataW Unit} (hm : (n, D) ∈ laid) (hD : D = DataW.iface nm d) (hf : D.handleName?.isNone = true)
    {g t : Nat} {ms : Array (String × TypeId)} (hg : P.globalNamed n = some g) (ht : (P.globals[g]?).map (·.type) = some t) (hi : P.underlying t = some (.interface ms)) :
    ∃ v ty fz, w.heap[g]? = some (.cells #[v] ty fz) ∧ (v = .nilIface ∨ ∃ te pe, v = .iface te pe) := by
  subst hD
  obtain ⟨⟨ps, hl, _⟩, _⟩ := laidMetH_iff.1 h
  obtain ⟨g', t', cs, fuel, p, enc, e1, e2, e3, e4⟩ := LaidVars_mem hl (List.mem_filter.2 ⟨hm, hf⟩)
  obtain rfl := Option.some.inj (hg.symm.trans e1)
  obtain rfl := Option.some.inj (ht.symm.trans e2)
  obtain ⟨f1, u, v, hcs, _, _⟩ := iface_of_trod hi e4
  simp only [World.var?, hg, Option.bind_some] at e3
  split at e3
  · rename_i C ty fz hw
    cases e3
    refine ⟨.iface u v, ty, fz, ?_, .inr ⟨u, v, rfl⟩⟩
    rw [hw]
    have : cs = #[.iface u v] := by
      apply Array.ext'
      simpa using hcs
    rw [this]
  · cases e3
end Ab
namespace Ab
set_option linter.unusedVariables false
set_option linter.unusedSimpArgs false
open Go

structure Tab where
  nt : Nat
  code : ACode
  rs : List RV
structure TabOk (P : Program) (f : Nat) (t : Tab) : Prop where
  ok : ∃ fn code, P.funcs[f]? = some fn ∧ fn.body = some code ∧ ordsOk t.code = true ∧ erase t.code = cCode P fn.ntmps code ∧ cRes P fn.results.toList = some t.rs ∧ t.nt = fn.ntmps
theorem tabOk {P : Program} {f : Nat} {fn : Func} {code : Code} {t : Tab} (hf : P.funcs[f]? = some fn) (hb : fn.body = some code) (ho : ordsOk t.code = true) (hc : erase t.code = cCode P fn.ntmps code) (hr : cRes P fn.results.toList = some t.rs) (hn : t.nt = fn.ntmps) : TabOk P f t :=
  ⟨fn, code, hf, hb, ho, hc, hr, hn⟩
inductive TabsOk (P : Program) : List (Nat × Tab) → Prop
  | nil : TabsOk P []
  | cons {f : Nat} {t : Tab} {r : List (Nat × Tab)} (h : TabOk P f t) (hr : TabsOk P r) : TabsOk P ((f, t) :: r)

noncomputable section
def tabK (l : List (Nat × Tab)) (f : Nat) (k : Tab → Prop) : Prop :=
  @List.rec (Nat × Tab) (fun _ => Prop) False (fun x _ ih => @Bool.rec (fun _ => Prop) ih (k x.2) (Nat.beq x.1 f)) l
def restQ (Q : AExit → Env → Heap → Prop) (I : Env → Heap → Prop) : AExit → Env → Heap → Prop
  | .normal, e, h => I e h
  | x, e, h => Q x e h
def lvl (P : Program) (T : List (Nat × Tab)) (n : Nat) : CallR × LoopR :=
  @Nat.rec (fun _ => CallR × LoopR) (⟨fun _ _ _ _ => False, fun v v' p => asr (svEq 8 v v') p⟩, fun _ _ _ _ => False)
    (fun _ ih => (⟨fun f a h k => tabK T f fun t => asr (Nat.ble a.length t.nt) (awpC P ih.1 ih.2 t.code (finQ t.rs k) (argEnv 0 a) h), fun v v' p => asr (svEq 8 v v') p⟩,
      fun b Q e h => awpC P ih.1 ih.2 b (restQ Q (ih.2 b Q)) e h)) n
end

theorem lvl_same {P : Program} {T : List (Nat × Tab)} : ∀ n v v' p, (lvl P T n).1.same v v' p → Lk v' v ∧ p
  | 0, v, v', p, h => by
    have h' := asr_iff.1 (show asr (svEq 8 v v') p from h)
    exact ⟨svEq_eq 8 _ _ h'.1 ▸ .refl _, h'.2⟩
  | n+1, v, v', p, h => by
    have h' := asr_iff.1 (show asr (svEq 8 v v') p from h)
    exact ⟨svEq_eq 8 _ _ h'.1 ▸ .refl _, h'.2⟩
theorem tabK_inv {P : Program} : ∀ {l : List (Nat × Tab)} {f : Nat} {k : Tab → Prop}, TabsOk P l → tabK l f k → ∃ t, TabOk P f t ∧ k t
  | [], f, k, _, h => h.elim
  | (g, t) :: r, f, k, .cons h1 h2, h => by
    have h' : @Bool.rec (fun _ => Prop) (tabK r f k) (k t) (Nat.beq g f) := h
    rcases brE h' with ⟨hb, hk⟩ | ⟨_, hk⟩
    · obtain rfl := Nat.eq_of_beq_eq_true hb
      exact ⟨t, h1, hk⟩
    · exact tabK_inv h2 hk

theorem ARound.fullC {P : Program} {Γ : CallR} {Λ : LoopR} (hΓ : Γ.Ok P) (hΛ : ∀ b Q e h, Λ b Q e h → ALoop P b Q e h) {b : ACode} {Q : AExit → Env → Heap → Prop} {I : Env → Heap → Prop} {m : Nat} {e : Env} {h : Heap}
    (hI : ∀ e h, I e h → ARound P b Q m e h) (hp : awpC P Γ Λ b (restQ Q I) e h) : ARound P b Q (m + 1) e h := by
  refine ⟨fun n code hmix hord hc c w a hr he hn => ?_⟩
  rw [rounds_succ]
  refine wp_mono (awpC_sound (n := n) hΓ hΛ hmix code b _ e h hord hc hp c w a hr he hn) fun ex a2 w2 hpost => ?_
  obtain ⟨c2, h2, e2, xx, hq, hr2, hx2, he2, hn2, hd2, hex⟩ := hpost
  cases ex with
  | normal =>
    cases xx <;> try exact hex.elim
    simp only [Exit.then]
    have := (hI _ _ hq).run n code hmix hord hc c2 w2 a2 hr2 he2 hn2
    rw [hd2] at this
    exact rounds_mono (fun _ _ _ hp2 => hp2.of hr hx2) m this
  | exit i => cases xx <;> first | exact hex.elim | exact ⟨c2, h2, e2, _, hq, hr2, hx2, he2, hn2, hd2, hex⟩
  | goto l => cases xx <;> exact hex.elim
  | ret => cases xx <;> first | exact hex.elim | exact ⟨c2, h2, e2, _, hq, hr2, hx2, he2, hn2, hd2, hex⟩
  | panic ch => cases xx <;> first | exact hex.elim | exact ⟨c2, h2, e2, _, hq, hr2, hx2, he2, hn2, hd2, hex⟩
  | outgrown => cases xx <;> exact hex.elim

/-- What the reckoning says is so. -/
theorem lvl_sound {P : Program} {T : List (Nat × Tab)} (hm : P.follows .mixedOrders = true) (hT : TabsOk P T) : ∀ n, (lvl P T n).1.Ok P ∧ (∀ b Q e h, (lvl P T n).2 b Q e h → ARound P b Q n e h)
  | 0 => ⟨⟨fun _ _ _ _ h => h.elim, lvl_same 0⟩, fun _ _ _ _ h => h.elim⟩
  | n + 1 => by
    obtain ⟨ih1, ih2⟩ := lvl_sound hm hT n
    have hΛ : ∀ b Q e h, (lvl P T n).2 b Q e h → ALoop P b Q e h := fun b Q e h hp => loop_rounds n (ih2 b Q e h hp)
    refine ⟨⟨fun f a h k hp => ?_, lvl_same (n + 1)⟩, fun b Q e h hp => ARound.fullC ih1 hΛ (fun e h hp => ih2 b Q e h hp) hp⟩
    have hp' : tabK T f fun t => asr (Nat.ble a.length t.nt) (awpC P (lvl P T n).1 (lvl P T n).2 t.code (finQ t.rs k) (argEnv 0 a) h) := hp
    obtain ⟨t, ⟨fn, code, hf, hb, ho, hc, hr, hn⟩, hp'⟩ := tabK_inv hT hp'
    replace hp' := asr_iff.1 hp'
    exact acall_of_awpC ih1 hΛ hm hf hb ho hc hr (by rw [← hn]; exact hp'.1) hp'.2

/-- A closed call, reckoned. -/
theorem pcall_lvl {P : Program} {T : List (Nat × Tab)} (hm : P.follows .mixedOrders = true) (hT : TabsOk P T) (n : Nat) {f : FuncId} {args : List SV} {v : SV} (ha : ∀ a ∈ args, LitV a) (hv : LitV v)
    (hp : (lvl P T n).1.call f args ⟨0, []⟩ (fun r _ => r = .ret v)) : PCall P f args v :=
  ⟨ha, ((lvl_sound hm hT n).1.call _ _ _ _ hp).mono fun r h' hr => ⟨v, hr, .lit hv⟩⟩
end Ab
namespace Go.Proofs.YtlhpbcbkkbjhoaaGreatDoor
open Ab Go.RowKit
set_option linter.unusedVariables false
set_option linter.unusedSimpArgs false
theorem w64 {x : Int} (h : -9223372036854775808 ≤ x) (h' : x ≤ 9223372036854775807) : IntKind.i64.wrap x = x := by rw [IntKind.wrap_i64]; omega
theorem wu64 {x : Int} (h : 0 ≤ x) (h' : x < 18446744073709551616) : IntKind.u64.wrap x = x := by rw [IntKind.wrap_u64]; omega
theorem wu8 {x : Int} (h : 0 ≤ x) (h' : x < 256) : IntKind.u8.wrap x = x := by rw [IntKind.wrap_u8]; omega
theorem w64sub {n : Nat} (h : 0 < n) (h' : n ≤ 9223372036854775807) : IntKind.i64.wrap ((n : Int) - 1) = ((n - 1 : Nat) : Int) := by rw [w64 (by omega) (by omega)]; omega
theorem w64add {n : Nat} (h' : n < 9223372036854775807) : IntKind.i64.wrap ((n : Int) + 1) = ((n + 1 : Nat) : Int) := by rw [w64 (by omega) (by omega)]; omega
theorem u8_back (b : UInt8) : UInt8.ofNat b.toNat = b := by simp
theorem u8_succ {b : UInt8} (h : b < 255) : UInt8.ofNat (IntKind.u8.wrap ((b.toNat : Int) + 1)).toNat = b + 1 := by
  rw [UInt8.lt_iff_toNat_lt] at h
  have : (255 : UInt8).toNat = 255 := rfl
  rw [wu8 (by omega) (by omega)]
  apply UInt8.toNat_inj.1
  rw [UInt8.toNat_add]
  have : (1 : UInt8).toNat = 1 := rfl
  simp
theorem u8_lt_iff {b c : UInt8} : b < c ↔ b.toNat < c.toNat := UInt8.lt_iff_toNat_lt
theorem take_succ_getD {s : List UInt8} {n : Nat} (h : n < s.length) : s.take (n + 1) = s.take n ++ [s.getD n 0] := by
  rw [List.take_add_one, List.getElem?_eq_getElem h, List.getD_eq_getElem?_getD, List.getElem?_eq_getElem h]; rfl
end Go.Proofs.YtlhpbcbkkbjhoaaGreatDoor
namespace Go.Proofs.YtlhpbcbkkbjhoaaGreatDoor
open Go.Lib

def isLetter (c : UInt8) : Bool := (97 ≤ c && c ≤ 122) || (65 ≤ c && c ≤ 90) || c == 95
def isDigit (c : UInt8) : Bool := 48 ≤ c && c ≤ 57
def isBlank (c : UInt8) : Bool := c == 9 || c == 10 || c == 13 || c == 32
def lowB (c : UInt8) : UInt8 := if 65 ≤ c && c ≤ 90 then c + 32 else c
/-- A token without its place. -/
structure Tk where
  k : Int
  t : List UInt8
  n : Nat
inductive One
  | ok (x : Tk) (n : Nat)
  | err (e : Int)
def wordL (s : List UInt8) : One :=
  let w := s.takeWhile fun c => isLetter c || isDigit c
  if 32 < w.length then .err 3 else .ok ⟨1, w.map lowB, 0⟩ w.length
def numOf (s : List UInt8) : Nat := s.foldl (fun n c => 10 * n + (c.toNat - 48)) 0
def numberL (s : List UInt8) : One :=
  let w := s.takeWhile isDigit
  if 9223372036854775808 < numOf w then .err 233 else .ok ⟨2, [], numOf w⟩ w.length
/-- Behind the first apostrophe: how far it is, whether a letter was bad, what was read. -/
def textGo : Nat → List UInt8 → Nat → Bool → List UInt8 → One
  | 0, _, _, _, _ => .err 231
  | _+1, [], _, _, _ => .err 231
  | f+1, c :: r, i, bad, buf =>
    if c ≠ 39 then
      let d := decodeL (c :: r)
      textGo f ((c :: r).drop d.2) (i + d.2) (bad || (d.1 == 65533 && d.2 == 1)) (buf ++ (c :: r).take d.2)
    else if r.getD 0 0 = 39 then textGo f (r.drop 1) (i + 2) bad (buf ++ [39])
    else if bad then .err 232 else if 64 < buf.length then .err 3 else .ok ⟨3, buf, 0⟩ (i + 1)
def textL (s : List UInt8) : One := textGo s.length (s.drop 1) 1 false []
def signsL : List (List UInt8) := [[60, 62], [60, 61], [62, 61], [124, 124], [40], [41], [44], [59], [46], [42], [43], [45], [47], [37], [61], [60], [62]]
def signL (s : List UInt8) : List (List UInt8) → One
  | [] => .err 230
  | x :: r => if x.isPrefixOf s then .ok ⟨4, x, 0⟩ x.length else signL s r
def oneL (s : List UInt8) : One := match s with
  | [] => .err 230
  | c :: _ => if isLetter c then wordL s else if isDigit c then numberL s else if c == 39 then textL s else signL s signsL
/-- The tokens with their places, or the error with its. -/
def lexGo : Nat → List UInt8 → Nat → Except (Int × Nat) (List (Tk × Nat))
  | 0, _, _ => .ok []
  | _+1, [], _ => .ok []
  | f+1, c :: r, at0 =>
    if isBlank c then lexGo f r (at0 + 1)
    else match oneL (c :: r) with
      | .err e => .error (e, at0)
      | .ok x n => match lexGo f ((c :: r).drop n) (at0 + n) with
        | .error e => .error e
        | .ok l => .ok ((x, at0) :: l)
def lexL (s : List UInt8) : Except (Int × Nat) (List (Tk × Nat)) := lexGo s.length s 0
end Go.Proofs.YtlhpbcbkkbjhoaaGreatDoor
namespace Go.Proofs.YtlhpbcbkkbjhoaaGreatDoor
open Go.Lib

theorem decodeL_stop {p r r' : List UInt8} (hp : p ≠ []) : decodeL (p ++ 39 :: r) = decodeL (p ++ 39 :: r') := by
  rw [decodeL_N, decodeL_N]
  have q : ¬ ((39 : UInt8).toNat / 64 = 2) := by decide
  match p, hp with
  | [a], _ =>
    simp only [List.cons_append, List.nil_append, List.length_cons, List.getD_cons_zero, List.getD_cons_succ]
    unfold decodeN
    simp only [q, and_false, false_and, if_false]
  | [a, b], _ =>
    simp only [List.cons_append, List.nil_append, List.length_cons, List.getD_cons_zero, List.getD_cons_succ]
    unfold decodeN
    simp only [q, and_false, false_and, if_false, show 1 < r.length + 1 + 1 + 1 by omega, show 1 < r'.length + 1 + 1 + 1 by omega, true_and]
  | [a, b, c], _ =>
    simp only [List.cons_append, List.nil_append, List.length_cons, List.getD_cons_zero, List.getD_cons_succ]
    unfold decodeN
    simp only [q, and_false, false_and, if_false, show 1 < r.length + 1 + 1 + 1 + 1 by omega, show 1 < r'.length + 1 + 1 + 1 + 1 by omega, show 2 < r.length + 1 + 1 + 1 + 1 by omega, show 2 < r'.length + 1 + 1 + 1 + 1 by omega, true_and]
  | a :: b :: c :: d :: t, _ =>
    simp only [List.cons_append, List.length_cons, List.length_append, List.getD_cons_zero, List.getD_cons_succ]
    unfold decodeN
    simp only [show 1 < t.length + (r.length + 1) + 1 + 1 + 1 + 1 by omega, show 1 < t.length + (r'.length + 1) + 1 + 1 + 1 + 1 by omega, show 2 < t.length + (r.length + 1) + 1 + 1 + 1 + 1 by omega, show 2 < t.length + (r'.length + 1) + 1 + 1 + 1 + 1 by omega, show 3 < t.length + (r.length + 1) + 1 + 1 + 1 + 1 by omega, show 3 < t.length + (r'.length + 1) + 1 + 1 + 1 + 1 by omega, true_and]
/-- A letter ends ahead of an apostrophe. -/
theorem decodeL_fits {p r : List UInt8} (hp : p ≠ []) : (decodeL (p ++ 39 :: r)).2 ≤ p.length := by
  rw [decodeL_N]
  have q : ¬ ((39 : UInt8).toNat / 64 = 2) := by decide
  match p, hp with
  | [a], _ =>
    simp only [List.cons_append, List.nil_append, List.length_cons, List.getD_cons_zero, List.getD_cons_succ]
    unfold decodeN
    simp only [q, and_false, false_and, if_false]
    split <;> simp
  | [a, b], _ =>
    simp only [List.cons_append, List.nil_append, List.length_cons, List.getD_cons_zero, List.getD_cons_succ]
    unfold decodeN
    simp only [q, and_false, false_and, if_false]
    repeat' split
    all_goals simp
  | [a, b, c], _ =>
    simp only [List.cons_append, List.nil_append, List.length_cons, List.getD_cons_zero, List.getD_cons_succ]
    unfold decodeN
    simp only [q, and_false, false_and, if_false]
    repeat' split
    all_goals simp
  | a :: b :: c :: d :: t, _ =>
    unfold decodeN
    repeat' split
    all_goals (simp only [List.length_cons]; omega)
theorem split_at {l : List UInt8} {k : Nat} (h : k < l.length) (hk : l.getD k 0 = 39) : l = l.take k ++ 39 :: l.drop (k + 1) := by
  conv => lhs; rw [← List.take_append_drop k l]
  congr 1
  rw [List.drop_eq_getElem_cons h]
  congr 1
  simpa [List.getD, h] using hk
theorem textGo_cut : ∀ (f : Nat) (l : List UInt8) (i : Nat) (bad : Bool) (buf : List UInt8) (x : Tk) (n : Nat), textGo f l i bad buf = .ok x n →
    i < n ∧ n - 1 - i < l.length ∧ l.getD (n - 1 - i) 0 = 39 ∧ ∀ f' m, n ≤ i + m → m ≤ f' → textGo f' (l.take m) i bad buf = .ok x n
  | 0, l, i, bad, buf, x, n, h => by simp [textGo] at h
  | f+1, [], i, bad, buf, x, n, h => by simp [textGo] at h
  | f+1, c :: r, i, bad, buf, x, n, h => by
    rw [textGo] at h
    by_cases hc : c ≠ 39
    · rw [if_pos hc] at h
      obtain ⟨h1, h2, h3, h4⟩ := textGo_cut f _ _ _ _ x n h
      generalize hd : decodeL (c :: r) = d at h h1 h2 h3 h4
      have hw : 1 ≤ d.2 := by rw [← hd]; exact decodeL_width _
      rw [List.length_drop] at h2
      have e1 : n - 1 - i = d.2 + (n - 1 - (i + d.2)) := by omega
      have hq : (c :: r).getD (n - 1 - i) 0 = 39 := by
        rw [e1]
        simpa [List.getD, List.getElem?_drop] using h3
      have hlt : n - 1 - i < (c :: r).length := by omega
      refine ⟨by omega, hlt, hq, fun f' m hm hf => ?_⟩
      have hs := split_at hlt hq
      have hp : (c :: r).take (n - 1 - i) ≠ [] := by
        rw [show n - 1 - i = (n - 2 - i) + 1 by omega]
        simp
      have ht : (c :: r).take m = (c :: r).take (n - 1 - i) ++ 39 :: ((c :: r).drop (n - 1 - i + 1)).take (m - (n - 1 - i) - 1) := by
        conv => lhs; rw [hs]
        rw [List.take_append, List.take_of_length_le (by rw [List.length_take]; omega), List.length_take, Nat.min_eq_left (by omega), show m - (n - 1 - i) = (m - (n - 1 - i) - 1) + 1 by omega, List.take_succ_cons, Nat.add_sub_cancel]
      have hd' : decodeL ((c :: r).take m) = d := by
        rw [ht, decodeL_stop hp (r' := (c :: r).drop (n - 1 - i + 1)), ← hs, hd]
      obtain ⟨f', rfl⟩ : ∃ g, f' = g + 1 := ⟨f' - 1, by omega⟩
      obtain ⟨m, rfl⟩ : ∃ g, m = g + 1 := ⟨m - 1, by omega⟩
      rw [List.take_succ_cons, textGo, if_pos hc]
      rw [List.take_succ_cons] at hd'
      rw [hd']
      show textGo f' ((c :: r.take m).drop d.2) (i + d.2) _ (buf ++ (c :: r.take m).take d.2) = _
      have e2 : c :: r.take m = (c :: r).take (m + 1) := rfl
      rw [e2, List.take_take, Nat.min_eq_left (by omega), List.drop_take]
      exact h4 f' (m + 1 - d.2) (by omega) (by omega)
    · have hc : c = 39 := by simpa using hc
      subst hc
      rw [if_neg (by simp)] at h
      by_cases hr : r.getD 0 0 = 39
      · rw [if_pos hr] at h
        obtain ⟨h1, h2, h3, h4⟩ := textGo_cut f _ _ _ _ x n h
        match r, hr, h2, h3, h4 with
        | [], hr, _, _, _ => exact absurd hr (by decide)
        | a :: r', hr, h2, h3, h4 =>
          obtain rfl : a = 39 := hr
          simp only [List.drop_succ_cons, List.drop_zero] at h2 h3 h4
          refine ⟨by omega, by simp only [List.length_cons]; omega, ?_, fun f' m hm hf => ?_⟩
          · rw [show n - 1 - i = (n - 1 - (i + 2)) + 1 + 1 by omega]
            simpa using h3
          · obtain ⟨f', rfl⟩ : ∃ g, f' = g + 1 := ⟨f' - 1, by omega⟩
            obtain ⟨m, rfl⟩ : ∃ g, m = g + 1 + 1 := ⟨m - 2, by omega⟩
            rw [List.take_succ_cons, List.take_succ_cons, textGo, if_neg (by simp), if_pos (by rfl)]
            simp only [List.drop_succ_cons, List.drop_zero]
            exact h4 f' m (by omega) (by omega)
      · rw [if_neg hr] at h
        have hn : n = i + 1 := by
          split at h
          · cases h
          · split at h
            · cases h
            · cases h; rfl
        subst hn
        refine ⟨by omega, by simp, by rw [show i + 1 - 1 - i = 0 by omega]; rfl, fun f' m hm hf => ?_⟩
        obtain ⟨f', rfl⟩ : ∃ g, f' = g + 1 := ⟨f' - 1, by omega⟩
        obtain ⟨m, rfl⟩ : ∃ g, m = g + 1 := ⟨m - 1, by omega⟩
        have hr' : ¬ (r.take m).getD 0 0 = 39 := by
          cases m with
          | zero => simp
          | succ m => cases r with
            | nil => simp
            | cons a r => exact hr
        rw [List.take_succ_cons, textGo, if_neg (by simp), if_neg hr']
        exact h
end Go.Proofs.YtlhpbcbkkbjhoaaGreatDoor
namespace Go.Proofs.YtlhpbcbkkbjhoaaGreatDoor
open Go.Lib

theorem takeWhile_take {p : UInt8 → Bool} : ∀ (s : List UInt8) (m : Nat), (s.takeWhile p).length ≤ m → (s.take m).takeWhile p = s.takeWhile p
  | [], m, _ => by simp
  | c :: r, 0, h => by
    by_cases hc : p c = true
    · simp [hc] at h
    · simp [hc]
  | c :: r, m + 1, h => by
    by_cases hc : p c = true
    · simp only [List.take_succ_cons, List.takeWhile_cons, hc, if_true] at h ⊢
      rw [takeWhile_take r m (by simpa using h)]
    · simp [hc]
theorem takeWhile_le {p : UInt8 → Bool} : ∀ (s : List UInt8), (s.takeWhile p).length ≤ s.length
  | [] => by simp
  | c :: r => by
    rw [List.takeWhile_cons]
    split
    · have := takeWhile_le (p := p) r
      simp only [List.length_cons]; omega
    · simp
theorem prefix_take {x s : List UInt8} {m : Nat} (h : x.isPrefixOf (s.take m) = true) : x.isPrefixOf s = true := by
  rw [List.isPrefixOf_iff_prefix] at h ⊢
  exact h.trans (List.take_prefix m s)
theorem take_prefix {x s : List UInt8} {m : Nat} (h : x.isPrefixOf s = true) (hm : x.length ≤ m) : x.isPrefixOf (s.take m) = true := by
  rw [List.isPrefixOf_iff_prefix] at h ⊢
  obtain ⟨t, rfl⟩ := h
  rw [List.take_append, List.take_of_length_le hm]
  exact List.prefix_append _ _
theorem signL_cut {s : List UInt8} : ∀ (L : List (List UInt8)) (x : Tk) (n : Nat), (∀ y ∈ L, y ≠ []) → signL s L = .ok x n → 1 ≤ n ∧ n ≤ s.length ∧ ∀ m, n ≤ m → signL (s.take m) L = .ok x n
  | [], x, n, _, h => by simp [signL] at h
  | y :: L, x, n, hL, h => by
    rw [signL] at h
    split at h
    · rename_i hy
      cases h
      refine ⟨by have := hL y (by simp); cases y with | nil => exact absurd rfl this | cons a b => simp, ?_, fun m hm => ?_⟩
      · rw [List.isPrefixOf_iff_prefix] at hy
        exact hy.length_le
      · rw [signL, if_pos (take_prefix hy hm)]
    · rename_i hy
      obtain ⟨h1, h2, h3⟩ := signL_cut L x n (fun y hm => hL y (by simp [hm])) h
      refine ⟨h1, h2, fun m hm => ?_⟩
      rw [signL, if_neg fun hp => hy (prefix_take hp)]
      exact h3 m hm
theorem signsL_ne : ∀ y ∈ signsL, y ≠ [] := by decide
theorem oneL_cut {s : List UInt8} {x : Tk} {n : Nat} (h : oneL s = .ok x n) : 1 ≤ n ∧ n ≤ s.length ∧ ∀ m, n ≤ m → oneL (s.take m) = .ok x n := by
  match s, h with
  | [], h => simp [oneL] at h
  | c :: r, h =>
    have key : 1 ≤ n ∧ n ≤ (c :: r).length ∧ ∀ m, n ≤ m + 1 → oneL (c :: r.take m) = .ok x n := by
      unfold oneL at h
      dsimp only at h
      unfold oneL
      dsimp only
      split at h
      · rename_i hl
        simp only [if_pos hl]
        unfold wordL at h ⊢
        dsimp only at h ⊢
        split at h
        · cases h
        · rename_i hlen
          cases h
          refine ⟨?_, takeWhile_le _, fun m hm => ?_⟩
          · simp [hl]
          · have := takeWhile_take (p := fun c => isLetter c || isDigit c) (c :: r) (m + 1) hm
            rw [List.take_succ_cons] at this
            rw [this, if_neg hlen]
      · rename_i hl
        simp only [if_neg hl]
        split at h
        · rename_i hd
          simp only [if_pos hd]
          unfold numberL at h ⊢
          dsimp only at h ⊢
          split at h
          · cases h
          · rename_i hlen
            cases h
            refine ⟨?_, takeWhile_le _, fun m hm => ?_⟩
            · simp [hd]
            · have := takeWhile_take (p := isDigit) (c :: r) (m + 1) hm
              rw [List.take_succ_cons] at this
              rw [this, if_neg hlen]
        · rename_i hd
          simp only [if_neg hd]
          split at h
          · rename_i hq
            simp only [if_pos hq]
            unfold textL at h ⊢
            simp only [List.drop_succ_cons, List.drop_zero] at h ⊢
            obtain ⟨h1, h2, h3, h4⟩ := textGo_cut _ _ _ _ _ x n h
            refine ⟨by omega, by simp only [List.length_cons]; omega, fun m hm => ?_⟩
            by_cases hmr : m ≤ r.length
            · exact h4 _ m (by omega) (by rw [List.length_cons, List.length_take]; omega)
            · rw [List.take_of_length_le (by omega)]
              have := h4 (r.length + 1) r.length (by omega) (by omega)
              rw [List.take_length] at this
              exact this
          · rename_i hq
            simp only [if_neg hq]
            obtain ⟨h1, h2, h3⟩ := signL_cut signsL x n signsL_ne h
            refine ⟨h1, h2, fun m hm => ?_⟩
            have := h3 (m + 1) hm
            rw [List.take_succ_cons] at this
            exact this
    refine ⟨key.1, key.2.1, fun m hm => ?_⟩
    obtain ⟨m, rfl⟩ : ∃ g, m = g + 1 := ⟨m - 1, by omega⟩
    exact key.2.2 m hm
/-- What was cut: blanks, a token, and so on. -/
inductive Lexed : List UInt8 → Nat → List (Tk × Nat) → Prop
  | none {s : List UInt8} {p : Nat} (h : ∀ c ∈ s, isBlank c = true) : Lexed s p []
  | some {b s : List UInt8} {p : Nat} {x : Tk} {n : Nat} {l : List (Tk × Nat)} (hb : ∀ c ∈ b, isBlank c = true) (hc : isBlank (s.getD 0 0) = false) (ho : oneL s = .ok x n) (h : Lexed (s.drop n) (p + b.length + n) l) : Lexed (b ++ s) p ((x, p + b.length) :: l)
theorem lexGo_lexed : ∀ (f : Nat) (s : List UInt8) (p : Nat) (l : List (Tk × Nat)), s.length ≤ f → lexGo f s p = .ok l → Lexed s p l
  | 0, s, p, l, hf, h => by
    obtain rfl : s = [] := by simpa using hf
    simp only [lexGo] at h
    cases h
    exact .none (by simp)
  | f+1, [], p, l, hf, h => by
    simp only [lexGo] at h
    cases h
    exact .none (by simp)
  | f+1, c :: r, p, l, hf, h => by
    rw [lexGo] at h
    simp only [List.length_cons] at hf
    split at h
    · rename_i hb
      match l, lexGo_lexed f r (p + 1) l (by omega) h with
      | _, .none h => exact .none (by simp only [List.mem_cons]; rintro d (rfl | hd); exact hb; exact h d hd)
      | _, .some (b := b) (s := s) (x := x) (n := n) (l := l) hb' hc ho h =>
        have := Lexed.some (b := c :: b) (p := p) (by simp only [List.mem_cons]; rintro d (rfl | hd); exact hb; exact hb' d hd) hc ho (by rw [List.length_cons, show p + (b.length + 1) + n = p + 1 + b.length + n by omega]; exact h)
        rw [List.length_cons, show p + (b.length + 1) = p + 1 + b.length by omega] at this
        exact this
    · rename_i hb
      split at h
      · cases h
      · rename_i x n ho
        split at h
        · cases h
        · rename_i l' hl
          cases h
          obtain ⟨h1, h2, _⟩ := oneL_cut ho
          have := lexGo_lexed f _ _ _ (by rw [List.length_drop, List.length_cons]; simp only [List.length_cons] at h2; omega) hl
          exact Lexed.some (b := []) (by simp) (by simpa using hb) ho this
theorem lexGo_blank : ∀ (f : Nat) (s : List UInt8) (p : Nat), (∀ c ∈ s, isBlank c = true) → lexGo f s p = .ok []
  | 0, _, _, _ => rfl
  | f+1, [], _, _ => rfl
  | f+1, c :: r, p, h => by
    rw [lexGo, if_pos (h c (by simp))]
    exact lexGo_blank f r (p + 1) fun d hd => h d (by simp [hd])
/-- A token alone, with blanks behind it. -/
theorem lexL_alone {s : List UInt8} {x : Tk} {n m : Nat} (hc : isBlank (s.getD 0 0) = false) (ho : oneL s = .ok x n) (hm : n ≤ m) (hml : m ≤ s.length) (hb : ∀ c ∈ (s.take m).drop n, isBlank c = true) : lexL (s.take m) = .ok [(x, 0)] := by
  obtain ⟨h1, h2, h3⟩ := oneL_cut ho
  have h4 := h3 m hm
  have hl : (s.take m).length = m := by rw [List.length_take]; omega
  unfold lexL
  rw [hl]
  match s, hc, m, hm with
  | [], _, _, _ => simp at h2; omega
  | c :: r, hc, 0, hm => omega
  | c :: r, hc, m + 1, hm =>
    rw [List.take_succ_cons] at h4 hb ⊢
    rw [lexGo, if_neg (by simpa using hc), h4]
    dsimp only
    rw [lexGo_blank _ _ _ hb]
end Go.Proofs.YtlhpbcbkkbjhoaaGreatDoor
namespace Go.Proofs.YtlhpbcbkkbjhoaaGreatDoor
open Go.Lib
/-- The place of the token behind i tokens; the end, if there is none. -/
def toP (l : List (Tk × Nat)) (i e : Nat) : Nat := match l[i]? with
  | some x => x.2
  | none => e
theorem toP_succ (a : Tk × Nat) (l : List (Tk × Nat)) (i e : Nat) : toP (a :: l) (i + 1) e = toP l i e := by unfold toP; rw [List.getElem?_cons_succ]
theorem toP_zero (a : Tk × Nat) (l : List (Tk × Nat)) (e : Nat) : toP (a :: l) 0 e = a.2 := rfl
theorem toP_nil (i e : Nat) : toP [] i e = e := by unfold toP; simp
theorem lexed_head : ∀ {s : List UInt8} {p : Nat} {l : List (Tk × Nat)}, Lexed s p l → p ≤ toP l 0 (p + s.length) ∧ toP l 0 (p + s.length) ≤ p + s.length ∧ ∀ c ∈ s.take (toP l 0 (p + s.length) - p), isBlank c = true := by
  intro s p l h
  cases h with
  | none h =>
    rw [toP_nil]
    refine ⟨by omega, by omega, fun c hc => h c (List.mem_of_mem_take hc)⟩
  | some hb hc ho h =>
    rename_i b s x n l
    rw [toP_zero]
    refine ⟨by simp, by simp only [List.length_append]; omega, fun c hc => hb c ?_⟩
    dsimp only at hc
    rw [Nat.add_sub_cancel_left, List.take_left'  rfl] at hc
    exact hc
theorem lexed_own : ∀ {s : List UInt8} {p : Nat} {l : List (Tk × Nat)}, Lexed s p l → ∀ j, j < l.length →
    ∃ x q, l[j]? = some (x, q) ∧ p ≤ q ∧ q < toP l (j + 1) (p + s.length) ∧ toP l (j + 1) (p + s.length) ≤ p + s.length ∧
      isBlank ((s.drop (q - p)).getD 0 0) = false ∧ ∃ n, oneL (s.drop (q - p)) = .ok x n ∧ n ≤ toP l (j + 1) (p + s.length) - q ∧ ∀ c ∈ ((s.drop (q - p)).take (toP l (j + 1) (p + s.length) - q)).drop n, isBlank c = true := by
  intro s p l h
  induction h with
  | none h => intro j hj; simp at hj
  | some hb hc ho h ih =>
    rename_i b s p x n l
    obtain ⟨h1, h2, h3⟩ := oneL_cut ho
    have e : p + (b ++ s).length = p + b.length + n + (s.drop n).length := by rw [List.length_append, List.length_drop]; omega
    intro j hj
    cases j with
    | zero =>
      obtain ⟨a1, a2, a3⟩ := lexed_head h
      rw [toP_succ, e]
      refine ⟨x, p + b.length, rfl, by omega, by omega, a2, ?_⟩
      generalize toP l 0 (p + b.length + n + (s.drop n).length) = T at a1 a2 a3
      rw [Nat.add_sub_cancel_left, List.drop_left' rfl]
      refine ⟨hc, n, ho, by omega, ?_⟩
      rw [List.drop_take, show T - (p + b.length) - n = T - (p + b.length + n) by omega]
      exact a3
    | succ j =>
      obtain ⟨y, q, b1, b2, b3, b4, b5⟩ := ih j (by simpa using hj)
      rw [toP_succ, e]
      refine ⟨y, q, by simpa using b1, by omega, b3, b4, ?_⟩
      rw [List.drop_drop] at b5
      rw [show q - p = b.length + (n + (q - (p + b.length + n))) by omega, ← List.drop_drop, List.drop_left' rfl]
      exact b5
theorem lexed_gap {s : List UInt8} {p : Nat} {l : List (Tk × Nat)} (h : Lexed s p l) (j : Nat) (hj : j < l.length) :
    ∃ x q, l[j]? = some (x, q) ∧ p ≤ q ∧ q < toP l (j + 1) (p + s.length) ∧ toP l (j + 1) (p + s.length) ≤ p + s.length ∧ lexL ((s.drop (q - p)).take (toP l (j + 1) (p + s.length) - q)) = .ok [(x, 0)] := by
  obtain ⟨x, q, h1, h2, h3, h4, h5, n, h6, h7, h8⟩ := lexed_own h j hj
  exact ⟨x, q, h1, h2, h3, h4, lexL_alone h5 h6 h7 (by rw [List.length_drop]; omega) h8⟩
end Go.Proofs.YtlhpbcbkkbjhoaaGreatDoor
namespace Go.Proofs.YtlhpbcbkkbjhoaaGreatDoor
open Go.Lib
theorem foldl_ge : ∀ (l : List UInt8) (acc : Nat), acc ≤ l.foldl (fun n c => 10 * n + (c.toNat - 48)) acc
  | [], _ => Nat.le_refl _
  | c :: r, acc => by
    rw [List.foldl_cons]
    exact Nat.le_trans (by omega) (foldl_ge r _)
theorem isDigit_iff {c : UInt8} : isDigit c = true ↔ 48 ≤ c.toNat ∧ c.toNat ≤ 57 := by
  unfold isDigit
  simp only [Bool.and_eq_true, decide_eq_true_eq, UInt8.le_iff_toNat_le]
  exact Iff.rfl
theorem parse_digits : ∀ (l : List UInt8) (acc : Nat), (∀ c ∈ l, isDigit c = true) → acc < 18446744073709551616 →
    parseUintM 18446744073709551615 acc l = if l.foldl (fun n c => 10 * n + (c.toNat - 48)) acc < 18446744073709551616 then .ok (l.foldl (fun n c => 10 * n + (c.toNat - 48)) acc) else .range
  | [], acc, _, ha => by simp [parseUintM, ha]
  | c :: r, acc, h, ha => by
    have hc := isDigit_iff.1 (h c (by simp))
    rw [parseUintM, if_pos hc, List.foldl_cons]
    have hg := foldl_ge r (10 * acc + (c.toNat - 48))
    split
    · rw [if_neg (by omega)]
    · split
      · rw [if_neg (by omega)]
      · rw [Nat.mul_comm acc 10]
        exact parse_digits r _ (fun d hd => h d (by simp [hd])) (by omega)
theorem parse_num {l : List UInt8} (hne : l ≠ []) (h : ∀ c ∈ l, isDigit c = true) : parseUintB 64 l = if numOf l < 18446744073709551616 then .ok (numOf l) else .range := by
  unfold parseUintB
  rw [if_neg hne]
  exact parse_digits l 0 h (by decide)
theorem mem_takeWhile {p : UInt8 → Bool} : ∀ {l : List UInt8} {c : UInt8}, c ∈ l.takeWhile p → p c = true
  | [], _, h => by simp at h
  | a :: r, c, h => by
    rw [List.takeWhile_cons] at h
    split at h
    · rcases List.mem_cons.1 h with rfl | h
      · assumption
      · exact mem_takeWhile h
    · simp at h
theorem tw_lt {p : UInt8 → Bool} : ∀ {l : List UInt8} {n : Nat}, n ≤ (l.takeWhile p).length → n < l.length → (p (l.getD n 0) = true ↔ n < (l.takeWhile p).length)
  | [], n, _, h => by simp at h
  | a :: r, 0, _, _ => by
    rw [List.takeWhile_cons]
    show p a = true ↔ _
    split
    · rename_i h; simp [h]
    · rename_i h; simp [h]
  | a :: r, n + 1, h1, h2 => by
    rw [List.takeWhile_cons] at h1 ⊢
    split
    · rename_i h
      rw [if_pos h] at h1
      have := tw_lt (p := p) (l := r) (n := n) (by simpa using h1) (by simpa using h2)
      simpa using this
    · rename_i h
      rw [if_neg h] at h1
      simp at h1
theorem tw_take {p : UInt8 → Bool} : ∀ (l : List UInt8), l.take (l.takeWhile p).length = l.takeWhile p
  | [] => by simp
  | a :: r => by
    rw [List.takeWhile_cons]
    split
    · rw [List.length_cons, List.take_succ_cons, tw_take r]
    · simp
theorem lexGo_err : ∀ (f : Nat) (s : List UInt8) (p : Nat) (e : Int) (a : Nat), lexGo f s p = .error (e, a) → p ≤ a ∧ a < p + s.length
  | 0, _, _, _, _, h => by simp [lexGo] at h
  | f+1, [], _, _, _, h => by simp [lexGo] at h
  | f+1, c :: r, p, e, a, h => by
    rw [lexGo] at h
    simp only [List.length_cons]
    split at h
    · have := lexGo_err f r (p + 1) e a h
      omega
    · split at h
      · cases h; omega
      · rename_i x n ho
        obtain ⟨h1, h2, _⟩ := oneL_cut ho
        split at h
        · rename_i e' hl
          cases h
          have := lexGo_err f _ _ e a hl
          rw [List.length_drop] at this
          simp only [List.length_cons] at this h2
          omega
        · cases h
end Go.Proofs.YtlhpbcbkkbjhoaaGreatDoor
namespace Ab
set_option linter.unusedVariables false
set_option linter.unusedSimpArgs false
open Go

/-- What a slice, or a text, holds. -/
def Elems (h : Heap) (sz : Nat) (x : SV) (xs : List SV) : Prop := ∀ k : List SV → Prop, k xs → elemsK h sz x k
@[reducible] def byS (b : UInt8) : SV := .int .u8 b.toNat
theorem elems_run {h : Heap} {sz : Nat} {x : SV} {xs : List SV} {k : List SV → Prop} (hx : Elems h sz x xs) (hk : k xs) : elemsK h sz x k := hx k hk
theorem elems_str {h : Heap} (s : List UInt8) : Elems h 1 (.str s) (s.map byS) := fun k hk => by
  show asr (Nat.beq 1 1) (strK s k)
  rw [asr_iff, strK_eq]
  exact ⟨rfl, hk⟩
theorem elems_lst {h : Heap} {sz n : Nat} {get : Nat → SV} : Elems h sz (.lst sz n get) ((List.range n).map get) := fun k hk => by
  show asr (Nat.beq sz sz) (rangeK get n 0 k)
  rw [asr_iff, rangeK_eq, Nat.beq_refl]
  exact ⟨rfl, by rw [← List.range_eq_range']; exact hk⟩
theorem elems_bytes {h : Heap} {s : List UInt8} : Elems h 1 (.lst 1 s.length fun i => byS (s.getD i 0)) (s.map byS) := fun k hk => by
  refine elems_lst k ?_
  have e : (List.range s.length).map (fun i => byS (s.getD i 0)) = s.map byS := by
    apply List.ext_getElem
    · simp
    · intro i h1 h2
      simp only [List.length_map] at h2
      simp [h2]
  rw [e]; exact hk
theorem elems_sl {m : Nat} {l : List (Nat × AObj)} {i g sz off len szo : Nat} {cap : Option Nat} {elems : List SV} {sk : Sk} (ho : objL l i = some (.vec g szo elems sk)) (hle : off + len ≤ elems.length) :
    Elems ⟨m, l⟩ sz (.sl i g sz off len cap) ((elems.drop off).take len) := fun k hk => by
  show asr (Nat.beq sz sz) (lookO l i (fun o => match o with
      | .vec g' _ elems _ => asr (Nat.beq g' g) (dropN elems off fun l => takeN l len k)
      | _ => False) False)
  rw [asr_iff, lookO_eq, ho]
  refine ⟨Nat.beq_refl _, ?_⟩
  dsimp only
  rw [asr_iff, dropN_iff, takeN_iff]
  exact ⟨Nat.beq_refl _, by omega, by rw [List.length_drop]; omega, hk⟩
theorem elems_all {m : Nat} {l : List (Nat × AObj)} {i g sz n szo : Nat} {cap : Option Nat} {elems : List SV} {sk : Sk} (ho : objL l i = some (.vec g szo elems sk)) (hn : n = elems.length) :
    Elems ⟨m, l⟩ sz (.sl i g sz 0 n cap) elems := fun k hk => by
  refine elems_sl ho (by omega) k ?_
  rw [List.drop_zero, List.take_of_length_le (by omega)]; exact hk
theorem elems_whole {m : Nat} {l : List (Nat × AObj)} {i g sz off len szo : Nat} {cap : Option Nat} {elems xs : List SV} {sk : Sk} (ho : objL l i = some (.vec g szo elems sk)) (hle : off + len ≤ elems.length) (hxs : (elems.drop off).take len = xs) :
    Elems ⟨m, l⟩ sz (.sl i g sz off len cap) xs := hxs ▸ elems_sl ho hle

theorem allOnes_by : ∀ s : List UInt8, allOnes (s.map byS) = true
  | [] => rfl
  | b :: r => by
    show (allOne (byS b).cells && allOnes (r.map byS)) = true
    rw [allOnes_by r]; rfl

theorem append_none {ty : TypeId} {sz bytes : Nat} {h : Heap} {x : SV} {k : SV → Heap → Prop} (hx : Elems h sz x []) (hk : k .nils h) : appendK ty sz bytes h .nils x k := by
  unfold appendK
  exact hx _ hk
theorem append_noneS {ty : TypeId} {sz bytes : Nat} {m : Nat} {l : List (Nat × AObj)} {x : SV} {k : SV → Heap → Prop} {i g sz' off len szo : Nat} {cap : Option Nat} {elems : List SV} {sk : Sk} (hx : Elems ⟨m, l⟩ sz x []) (ho : objL l i = some (.vec g szo elems sk))
    (hk : k (.sl i g sz' off len cap) ⟨m, l⟩) : appendK ty sz bytes ⟨m, l⟩ (.sl i g sz' off len cap) x k := by
  unfold appendK
  refine hx _ ?_
  show liveK ⟨m, l⟩ i g _
  unfold liveK
  dsimp only
  rw [lookO_eq, ho]
  dsimp only
  rw [asr_iff]
  exact ⟨Nat.beq_refl _, hk⟩
theorem append_new {ty : TypeId} {sz bytes m : Nat} {l : List (Nat × AObj)} {x : SV} {xs : List SV} {k : SV → Heap → Prop} (hx : Elems ⟨m, l⟩ sz x xs) (h0 : 0 < xs.length) (h1 : allOnes xs = true)
    (hl : xs.length * bytes ≤ 140737488355328) (hl' : xs.length ≤ 9223372036854775807) (hk : k (.sl m 0 sz 0 xs.length none) ⟨m + 1, (m, .vec 0 sz xs ⟨true, some ty⟩) :: l⟩) : appendK ty sz bytes ⟨m, l⟩ .nils x k := by
  unfold appendK
  refine hx _ ?_
  cases xs with
  | nil => simp at h0
  | cons x0 xr =>
    dsimp only
    rw [asr_iff, asr_iff]
    exact ⟨h1, by rw [decide_eq_true hl, decide_eq_true hl']; rfl, hk⟩
/-- Behind a row that the run made: it moves, or has room; its elder names mean nothing any more. -/
theorem append_mv {ty : TypeId} {sz bytes m : Nat} {l : List (Nat × AObj)} {x : SV} {xs : List SV} {k : SV → Heap → Prop} {i g len szo : Nat} {elems : List SV} {sk : Sk} (hx : Elems ⟨m, l⟩ sz x xs) (h0 : 0 < xs.length) (h1 : allOnes xs = true)
    (ho : objL l i = some (.vec g szo elems sk)) (hn : len = elems.length) (hl : (len + xs.length) * bytes ≤ 140737488355328) (hl' : len + xs.length ≤ 9223372036854775807)
    (hk : setO l i (.vec (g + 1) szo (elems ++ xs) ⟨true, joinTy sk.ty ty⟩) fun l' => k (.sl i (g + 1) sz 0 (len + xs.length) none) ⟨m, l'⟩) : appendK ty sz bytes ⟨m, l⟩ (.sl i g sz 0 len none) x k := by
  unfold appendK
  refine hx _ ?_
  cases xs with
  | nil => simp at h0
  | cons x0 xr =>
    dsimp only
    rw [asr_iff]
    refine ⟨h1, ?_⟩
    show asr (Nat.beq sz sz) _
    rw [asr_iff]
    refine ⟨Nat.beq_refl _, ?_⟩
    rw [lookO_eq, ho]
    dsimp only
    rw [asr_iff]
    refine ⟨Nat.beq_refl _, ?_⟩
    have hno : (Nat.blt 0 sz && Nat.ble (0 + len + (x0 :: xr).length) elems.length) = false := by
      cases hb : Nat.ble (0 + len + (x0 :: xr).length) elems.length with
      | false => rw [Bool.and_false]
      | true =>
        have := Nat.le_of_ble_eq_true hb
        rw [hn] at this
        simp only [List.length_cons] at this
        omega
    rw [hno]
    show asr _ _
    rw [asr_iff]
    refine ⟨?_, ?_⟩
    · rw [decide_eq_true hl, decide_eq_true hl', hn]
      simp only [Bool.and_true, Nat.beq_refl]
    · rw [appL_eq]
      exact hk
/-! The same where everything is written out: asked of the kernel. -/
theorem append_mvC {ty : TypeId} {sz bytes m : Nat} {l : List (Nat × AObj)} {x : SV} {k : SV → Heap → Prop} {i g len : Nat} {xs : List SV} {szo : Nat} {elems : List SV} {sk : Sk} (hx : ∀ k, elemsK ⟨m, l⟩ sz x k = k xs) (ho : objL l i = some (.vec g szo elems sk))
    (hb : (Nat.blt 0 xs.length && (allOnes xs && (Nat.beq len elems.length && (Nat.ble ((len + xs.length) * bytes) 140737488355328 && Nat.ble (len + xs.length) 9223372036854775807)))) = true)
    (hk : setO l i (.vec (g + 1) szo (elems ++ xs) ⟨true, joinTy sk.ty ty⟩) fun l' => k (.sl i (g + 1) sz 0 (len + xs.length) none) ⟨m, l'⟩) : appendK ty sz bytes ⟨m, l⟩ (.sl i g sz 0 len none) x k := by
  simp only [Bool.and_eq_true, Nat.blt_eq, Nat.beq_eq, Nat.ble_eq] at hb
  exact append_mv (fun k hk => by rw [hx]; exact hk) hb.1 hb.2.1 ho hb.2.2.1 hb.2.2.2.1 hb.2.2.2.2 hk
theorem append_newC {ty : TypeId} {sz bytes m : Nat} {l : List (Nat × AObj)} {x : SV} {k : SV → Heap → Prop} {xs : List SV} (hx : ∀ k, elemsK ⟨m, l⟩ sz x k = k xs)
    (hb : (Nat.blt 0 xs.length && (allOnes xs && (Nat.ble (xs.length * bytes) 140737488355328 && Nat.ble xs.length 9223372036854775807))) = true)
    (hk : k (.sl m 0 sz 0 xs.length none) ⟨m + 1, (m, .vec 0 sz xs ⟨true, some ty⟩) :: l⟩) : appendK ty sz bytes ⟨m, l⟩ .nils x k := by
  simp only [Bool.and_eq_true, Nat.blt_eq, Nat.ble_eq] at hb
  exact append_new (fun k hk => by rw [hx]; exact hk) hb.1 hb.2.1 hb.2.2.1 hb.2.2.2 hk
theorem strK_run {s : List UInt8} {k : List SV → Prop} (hk : k (s.map byS)) : strK s k := by rw [strK_eq]; exact hk
theorem bytesK_run {s : List UInt8} {k : List UInt8 → Prop} (hk : k s) : bytesK (s.map byS) k := by
  have e : s.map byS = (s.map fun b => (b.toNat : Int)).map (SV.int .u8) := by rw [List.map_map]; rfl
  rw [e]
  refine bytesK_of ?_
  have e2 : (s.map fun b => (b.toNat : Int)).map (fun n => UInt8.ofNat n.toNat) = s := by
    rw [List.map_map]
    conv => rhs; rw [← List.map_id s]
    apply List.map_congr_left
    intro b _
    simp
  rw [e2]; exact hk
theorem takeN_run {l : List SV} {n : Nat} {k : List SV → Prop} (h : n ≤ l.length) (hk : k (l.take n)) : takeN l n k := takeN_iff.2 ⟨h, hk⟩
theorem takeN_all {l : List SV} {n : Nat} {k : List SV → Prop} (h : n = l.length) (hk : k l) : takeN l n k := takeN_iff.2 ⟨by omega, by rw [List.take_of_length_le (by omega)]; exact hk⟩
theorem dropN_run {l : List SV} {n : Nat} {k : List SV → Prop} (h : n ≤ l.length) (hk : k (l.drop n)) : dropN l n k := dropN_iff.2 ⟨h, hk⟩
end Ab
namespace Ab
set_option linter.unusedVariables false
set_option linter.unusedSimpArgs false
open Go
@[reducible] def lstB (b : List UInt8) : SV := .lst 1 b.length fun i => byS (b.getD i 0)
theorem agree_by : ∀ (s : List UInt8) (k : Nat) (get : Nat → SV), (∀ j, j < s.length → get (k + j) = byS (s.getD j 0)) → agree (s.map byS) k get
  | [], _, _, _ => trivial
  | b :: r, k, get, h => by
    refine ⟨?_, .int _ _, agree_by r (k + 1) get fun j hj => ?_⟩
    · have := h 0 (by simp)
      simpa using this.symm
    · have := h (j + 1) (by simp; omega)
      rw [show k + 1 + j = k + (j + 1) by omega, this]
      simp [List.getD]
theorem hard_by {A : Heap} {i g : Nat} {cap : Option Nat} {s : List UInt8} {n : Nat} {sk : Sk} (ho : A.obj i = some (.vec g 1 (s.map byS) sk)) (hn : n = s.length) : Hard A (.sl i g 1 0 n cap) (lstB s) := by
  subst hn
  have := hard_all (cap := cap) (get := fun i => byS (s.getD i 0)) ho (agree_by s 0 _ fun j _ => by rw [Nat.zero_add])
  rw [List.length_map] at this
  exact this
theorem setO_skip {i j : Nat} {o o' : AObj} {l : List (Nat × AObj)} {k : List (Nat × AObj) → Prop} (h : Nat.beq j i = false) (hk : k ((j, o) :: (i, o') :: l)) {o2 : AObj} : setO ((j, o) :: (i, o2) :: l) i o' k := by
  unfold setO
  rw [h]
  show setO ((i, o2) :: l) i o' _
  unfold setO
  rw [Nat.beq_refl]
  exact hk
theorem nbeq {a b : Nat} (h : a ≠ b) : Nat.beq a b = false := by
  cases hh : Nat.beq a b
  · rfl
  · exact absurd (Nat.eq_of_beq_eq_true hh) h
theorem objL_hd {i : Nat} {o : AObj} {l : List (Nat × AObj)} : objL ((i, o) :: l) i = some o := by simp [objL]
theorem objL_nx {i j : Nat} {o : AObj} {l : List (Nat × AObj)} (h : j ≠ i) : objL ((j, o) :: l) i = objL l i := by simp [objL, h]
theorem hsub_skip {n i j : Nat} {o o' : AObj} {l : List (Nat × AObj)} (h : j ≠ i) : HSub ⟨n, [(i, o')]⟩ ⟨n, (j, o) :: (i, o') :: l⟩ := by
  refine ⟨rfl, fun a b hb => ?_⟩
  have hb : objL [(i, o')] a = some b := hb
  show objL ((j, o) :: (i, o') :: l) a = some b
  by_cases ha : i = a
  · subst ha
    rw [objL_hd] at hb
    rw [objL_nx h, objL_hd, hb]
  · rw [objL_nx ha] at hb
    cases hb
theorem hsub_hd {n i : Nat} {o : AObj} {l : List (Nat × AObj)} : HSub ⟨n, [(i, o)]⟩ ⟨n, (i, o) :: l⟩ := by
  refine ⟨rfl, fun a b hb => ?_⟩
  have hb : objL [(i, o)] a = some b := hb
  show objL ((i, o) :: l) a = some b
  by_cases ha : i = a
  · subst ha
    rw [objL_hd] at hb ⊢
    exact hb
  · rw [objL_nx ha] at hb
    cases hb
theorem fdiv7 {y : Nat} : (y : Int).fdiv (2 ^ min (Int.toNat 7) IntKind.u64.bits) = ((y / 128 : Nat) : Int) := by
  have e : min (Int.toNat 7) IntKind.u64.bits = 7 := by decide
  rw [e, Int.fdiv_eq_ediv_of_nonneg _ (by decide)]
  norm_cast
/-- All names and all that is spoken of lies below a number. -/
def ltH (l : List (Nat × AObj)) (n : Nat) : Prop := ∀ i o, objL l i = some o → i < n ∧ objLt n o
def LitEnd : AEnd → Prop
  | .ret v => LitV v
  | .pan v => LitV v
theorem rep_cut {c : Cx} {w : World} {h h' : Heap} (hr : Rep c h w) (hl : ∀ i o, h'.obj i = some o → h.obj i = some o ∧ i < h'.nxt ∧ objLt h'.nxt o) : Rep c h' w := by
  have hsub : ∀ i o, h'.obj i = some o → h.obj i = some o := fun i o ho => (hl i o ho).1
  refine ⟨fun i o ho => (hl i o ho).2.1, fun i o ho => ?_, fun i j o p ho hp' heq => hr.inj i j o p (hsub i o ho) (hsub j p hp') heq, fun i o ho => hr.apart i o (hsub i o ho), hr.im, hr.glob⟩
  have hor := hr.obj i o (hsub i o ho)
  have holt := (hl i o ho).2.2
  cases hor with
  | vec g sz elems slack C ty fz hw hle heq hty hc hf hcell =>
    refine .vec g sz elems slack C ty fz hw hle heq hty hc hf fun i j e v x h1 h2 h3 => ?_
    have hv := hcell i j e v x h1 h2 h3
    have hlte := holt e (List.mem_of_getElem? h1)
    by_cases hagg : ∃ l, e = .agg l
    · obtain ⟨l, rfl⟩ := hagg
      exact hv.cut hsub 7 (List.all_eq_true.1 hlte v (List.mem_of_getElem? h2))
    · have h1 : e.cells = [e] := by cases e <;> first | rfl | exact absurd ⟨_, rfl⟩ hagg
      rw [h1] at h2
      cases j with
      | zero => simp at h2; subst h2; exact hv.cut hsub 8 hlte
      | succ j => simp at h2
  | iter s pos hw => exact .iter s pos hw
  | map es cl hw hs => exact .map es cl hw hs
  | miter m since seen stepped r hw hm => exact .miter m since seen stepped r hw (hm.cut hsub 8 holt)
  | fro g ty xs C fz hw hle hc => exact .fro g ty xs C fz hw hle hc
theorem ACall.cut {P : Program} {f : FuncId} {args : List SV} {n N : Nat} {l : List (Nat × AObj)} {R : AEnd → Heap → Prop} (hn : n ≤ N)
    (hc : ACall P f args ⟨n, l⟩ fun r h' => ∃ l', (∀ i o, objL l' i = some o → h'.obj i = some o ∧ i < N ∧ objLt N o) ∧ LitEnd r ∧ R r ⟨N, l'⟩) : ACall P f args ⟨n, l⟩ R :=
  ⟨fun c w xs hr hs hv => (hc.calls c w xs hr hs hv).mono fun e w' ⟨c', h', r, ⟨l', hl, hlit, hR⟩, hr', hx', he⟩ => by
    refine ⟨c', ⟨N, l'⟩, r, hR, rep_cut hr' hl, ⟨hx'.os, hx'.tape, hx'.output, hx'.size, hx'.frame, hx'.shape, hx'.im, hx'.im', hn, fun i o' hi ho' => hx'.old i o' hi (hl i o' ho').1, fun i o' ho' => hx'.new i o' (hl i o' ho').1⟩, ?_⟩
    cases r with
    | ret v => obtain ⟨x, he, hx⟩ := he; exact ⟨x, he, .pure (hlit.vp hx)⟩
    | pan v => obtain ⟨x, he, hx⟩ := he; exact ⟨x, he, .pure (hlit.vp hx)⟩⟩
theorem lookO_run {l : List (Nat × AObj)} {i : Nat} {o : AObj} {k : AObj → Prop} {d : Prop} (h : objL l i = some o) (hk : k o) : lookO l i k d := by
  rw [lookO_eq, h]; exact hk
theorem setO_run {l : List (Nat × AObj)} {i : Nat} {o : AObj} {k : List (Nat × AObj) → Prop} (hk : k (putO l i o)) : setO l i o k := by
  rw [setO_eq]; exact hk
theorem dropO_run {k : List (Nat × AObj) → Prop} {l : List (Nat × AObj)} {i : Nat} (hk : ∀ l', k l') : dropO l i k := by
  induction l generalizing k with
  | nil => exact hk []
  | cons x r ih =>
    obtain ⟨s, o⟩ := x
    unfold dropO
    rcases beq_cases s i with ⟨h, _⟩ | ⟨h, _⟩ <;> rw [h]
    · exact ih hk
    · exact ih fun l' => hk _
theorem putO_putO : ∀ (l : List (Nat × AObj)) (i : Nat) (a b : AObj), putO (putO l i a) i b = putO l i b
  | [], i, a, b => rfl
  | (s, o) :: r, i, a, b => by
    by_cases h : s = i
    · simp only [putO, if_pos h]
    · simp only [putO, if_neg h, putO_putO r i a b]
theorem putO_comm : ∀ (l : List (Nat × AObj)) {i j : Nat} (a b : AObj), i ≠ j → putO (putO l i a) j b = putO (putO l j b) i a
  | [], i, j, a, b, _ => rfl
  | (s, o) :: r, i, j, a, b, h => by
    by_cases h1 : s = i
    · have h2 : s ≠ j := by omega
      simp only [putO, if_pos h1, if_neg h2]
    · by_cases h2 : s = j
      · simp only [putO, if_pos h2, if_neg h1]
      · simp only [putO, if_neg h1, if_neg h2, putO_comm r a b h]
theorem objL_put_same {l : List (Nat × AObj)} {i : Nat} {o o' : AObj} (h : objL l i = some o) : objL (putO l i o') i = some o' := objL_putS l i o o' h
theorem objL_put_ne {l : List (Nat × AObj)} {i j : Nat} {o' : AObj} (h : j ≠ i) : objL (putO l i o') j = objL l j := by rw [objL_put, if_neg h]
theorem nbeq_self (n : Nat) : Nat.beq n n = true := Nat.beq_refl n
theorem joinTy_self (t : TypeId) : joinTy (some t) t = some t := by show (bif Nat.beq t t then some t else none) = some t; rw [nbeq_self]; rfl
theorem append_one {ty : TypeId} {m g i : Nat} {o : List UInt8} {c : SV} {sk : Sk} {l : List (Nat × AObj)} {k : SV → Heap → Prop} (ho : objL l i = some (.vec g 1 (o.map byS) ⟨true, some ty⟩)) (him : i < m) (hc : allOne c.cells = true) (hlen : o.length + 1 ≤ 140737488355328)
    (hk : k (.sl i (g + 1) 1 0 (o.length + 1) none) ⟨m + 1, (m, .vec 0 1 [c] sk) :: putO l i (.vec (g + 1) 1 (o.map byS ++ [c]) ⟨true, some ty⟩)⟩) :
    appendK ty 1 1 ⟨m + 1, (m, .vec 0 1 [c] sk) :: l⟩ (.sl i g 1 0 o.length none) (.sl m 0 1 0 1 (some 1)) k := by
  refine append_mv (elems_all objL_hd rfl) (by simp) (by simp [allOnes, hc]) (by rw [objL_nx (by omega)]; exact ho) (by simp) (by simp; omega) (by simp; omega) ?_
  rw [setO_eq]
  unfold putO
  rw [if_neg (by omega), joinTy_self]
  exact hk
theorem append_str {ty : TypeId} {m g i : Nat} {o s : List UInt8} {l : List (Nat × AObj)} {k : SV → Heap → Prop} (ho : objL l i = some (.vec g 1 (o.map byS) ⟨true, some ty⟩)) (h0 : 0 < s.length) (hlen : o.length + s.length ≤ 140737488355328)
    (hk : k (.sl i (g + 1) 1 0 (o.length + s.length) none) ⟨m, putO l i (.vec (g + 1) 1 (o.map byS ++ s.map byS) ⟨true, some ty⟩)⟩) :
    appendK ty 1 1 ⟨m, l⟩ (.sl i g 1 0 o.length none) (.str s) k := by
  refine append_mv (elems_str s) (by simpa using h0) (allOnes_by s) ho (by simp) (by simp; omega) (by simp; omega) ?_
  rw [setO_eq, List.length_map, joinTy_self]
  exact hk
/-- Behind a slice whose room is told, and too small: a new row. -/
theorem append_cap {ty : TypeId} {sz bytes m : Nat} {l : List (Nat × AObj)} {x : SV} {xs : List SV} {k : SV → Heap → Prop} {i g off len cp szo : Nat} {elems : List SV} {sk : Sk} (hx : Elems ⟨m, l⟩ sz x xs) (h0 : 0 < xs.length) (h1 : allOnes xs = true)
    (ho : objL l i = some (.vec g szo elems sk)) (hle : off + len ≤ elems.length) (hcp : cp < len + xs.length) (hl : (len + xs.length) * bytes ≤ 140737488355328) (hl' : len + xs.length ≤ 9223372036854775807)
    (hk : k (.sl m 0 sz 0 (len + xs.length) none) ⟨m + 1, (m, .vec 0 sz ((elems.drop off).take len ++ xs) ⟨true, some ty⟩) :: l⟩) : appendK ty sz bytes ⟨m, l⟩ (.sl i g sz off len (some cp)) x k := by
  unfold appendK
  refine hx _ ?_
  cases xs with
  | nil => simp at h0
  | cons x0 xr =>
    dsimp only
    rw [asr_iff]
    refine ⟨h1, ?_⟩
    show asr (Nat.beq sz sz) _
    rw [asr_iff]
    refine ⟨Nat.beq_refl _, ?_⟩
    rw [lookO_eq, ho]
    dsimp only
    rw [asr_iff]
    refine ⟨Nat.beq_refl _, ?_⟩
    have hb : Nat.ble (len + (x0 :: xr).length) cp = false := by
      cases hh : Nat.ble (len + (x0 :: xr).length) cp
      · rfl
      · have := Nat.le_of_ble_eq_true hh; omega
    rw [hb]
    show asr _ _
    rw [asr_iff]
    refine ⟨by rw [decide_eq_true hl, decide_eq_true hl']; rfl, ?_⟩
    rw [dropN_iff]
    refine ⟨by omega, ?_⟩
    rw [takeN_iff]
    refine ⟨by rw [List.length_drop]; omega, ?_⟩
    rw [appL_eq]
    exact hk
theorem append_lst {ty : TypeId} {m g i : Nat} {o s : List UInt8} {l : List (Nat × AObj)} {k : SV → Heap → Prop} (ho : objL l i = some (.vec g 1 (o.map byS) ⟨true, some ty⟩)) (h0 : 0 < s.length) (hlen : o.length + s.length ≤ 140737488355328)
    (hk : k (.sl i (g + 1) 1 0 (o.length + s.length) none) ⟨m, putO l i (.vec (g + 1) 1 (o.map byS ++ s.map byS) ⟨true, some ty⟩)⟩) :
    appendK ty 1 1 ⟨m, l⟩ (.sl i g 1 0 o.length none) (lstB s) k := by
  refine append_mv elems_bytes (by simpa using h0) (allOnes_by s) ho (by simp) (by simp; omega) (by simp; omega) ?_
  rw [setO_eq, List.length_map, joinTy_self]
  exact hk
/-! A builder in memory: its head; its bytes. -/
@[reducible] def bldO (tb bi j g n : Nat) : AObj := .vec 0 2 [.agg [.ref bi 0 0 0, .sl j g 1 0 n none]] ⟨false, some tb⟩
@[reducible] def bufO (ty g : Nat) (o : List UInt8) : AObj := .vec g 1 (o.map byS) ⟨true, some ty⟩
def bset (tb ty : Nat) (l : List (Nat × AObj)) (bi j g : Nat) (o : List UInt8) : List (Nat × AObj) := putO (putO l j (bufO ty g o)) bi (bldO tb bi j g o.length)
theorem bset_bld {tb ty : Nat} {l : List (Nat × AObj)} {bi j g : Nat} {o : List UInt8} {ob : AObj} (hb : objL l bi = some ob) (hne : bi ≠ j) : objL (bset tb ty l bi j g o) bi = some (bldO tb bi j g o.length) :=
  objL_put_same (o := ob) (by rw [objL_put_ne hne]; exact hb)
theorem bset_buf {tb ty : Nat} {l : List (Nat × AObj)} {bi j g : Nat} {o : List UInt8} {oj : AObj} (hj : objL l j = some oj) (hne : bi ≠ j) : objL (bset tb ty l bi j g o) j = some (bufO ty g o) := by
  unfold bset
  rw [objL_put_ne (fun h => hne h.symm)]
  exact objL_put_same hj
theorem bset_ne {tb ty : Nat} {l : List (Nat × AObj)} {bi j g i : Nat} {o : List UInt8} (h1 : i ≠ bi) (h2 : i ≠ j) : objL (bset tb ty l bi j g o) i = objL l i := by
  unfold bset
  rw [objL_put_ne h1, objL_put_ne h2]
theorem objLt_by {n : Nat} {s : List UInt8} {g sz : Nat} {sk : Sk} : objLt n (.vec g sz (s.map byS) sk) := by
  intro v hv
  obtain ⟨b, _, rfl⟩ := List.mem_map.1 hv
  rfl
theorem putO_self : ∀ {l : List (Nat × AObj)} {i : Nat} {o : AObj}, objL l i = some o → putO l i o = l
  | [], _, _, h => rfl
  | (s, q) :: r, i, o, h => by
    unfold putO
    unfold objL at h
    by_cases hs : s = i
    · rw [if_pos hs] at h ⊢; cases h; rfl
    · rw [if_neg hs] at h ⊢; rw [putO_self h]
theorem bset_bset {tb ty : Nat} {l : List (Nat × AObj)} {bi j g g' : Nat} {o o' : List UInt8} (hne : bi ≠ j) : bset tb ty (bset tb ty l bi j g o) bi j g' o' = bset tb ty l bi j g' o' := by
  unfold bset
  rw [putO_comm _ _ _ hne, putO_putO, putO_putO]
theorem bset_self {tb ty : Nat} {l : List (Nat × AObj)} {bi j g : Nat} {o : List UInt8} (hb : objL l bi = some (bldO tb bi j g o.length)) (hj : objL l j = some (bufO ty g o)) : bset tb ty l bi j g o = l := by
  unfold bset
  rw [putO_self hj, putO_self hb]
theorem ltH_nil {n : Nat} : ltH [] n := fun i o h => by cases h
theorem ltH_cons {n i : Nat} {o : AObj} {l : List (Nat × AObj)} (hi : i < n) (ho : objLt n o) (hl : ltH l n) : ltH ((i, o) :: l) n := fun j ob h => by
  unfold objL at h
  split at h
  · cases h; rename_i h; subst h; exact ⟨hi, ho⟩
  · exact hl j ob h
theorem objLt_all {n g sz : Nat} {elems : List SV} {sk : Sk} (h : elems.all (SV.lt 8 n) = true) : objLt n (.vec g sz elems sk) := fun v hv => List.all_eq_true.1 h v hv
theorem sub_skip {m i : Nat} {t ob : AObj} {l : List (Nat × AObj)} (hi : i < m) (h : objL l i = some ob) : objL ((m, t) :: l) i = some ob := by rw [objL_nx (by omega)]; exact h
theorem ltH_bset {tb ty : Nat} {l : List (Nat × AObj)} {m bi j g : Nat} {o : List UInt8} (hl : ltH l m) (hbm : bi < m) (hjm : j < m) (hne : bi ≠ j) : ltH (bset tb ty l bi j g o) m := by
  intro i ob h
  by_cases h1 : i = bi
  · subst h1
    cases hq : objL l i with
    | none =>
      unfold bset at h
      rw [objL_put, if_pos rfl, objL_put_ne hne, hq] at h
      cases h
    | some q =>
      rw [bset_bld hq hne] at h
      cases h
      refine ⟨hbm, fun v hv => ?_⟩
      simp only [List.mem_singleton] at hv
      subst hv
      simp [SV.lt, Nat.blt, hbm, hjm]
      omega
  · by_cases h2 : i = j
    · subst h2
      cases hq : objL l i with
      | none =>
        unfold bset at h
        rw [objL_put_ne h1, objL_put, if_pos rfl, hq] at h
        cases h
      | some q =>
        rw [bset_buf hq hne] at h
        cases h
        exact ⟨hjm, objLt_by⟩
    · rw [bset_ne h1 h2] at h
      exact hl i ob h
end Ab
namespace Ab
open Go
section
variable {α : Type}
theorem exMap {p q : α → Prop} (h : ∀ x, p x → q x) (hp : ∃ x, p x) : ∃ x, q x := by obtain ⟨x, hx⟩ := hp; exact ⟨x, h x hx⟩
theorem exBr {b : Bool} {p q : α → Prop} (h1 : b = true → ∃ x, p x) (h0 : b = false → ∃ x, q x) : ∃ x, @Bool.rec (fun _ => Prop) (q x) (p x) b := by
  cases b
  · exact h0 rfl
  · exact h1 rfl
theorem exY {b : Bool} {p q : α → Prop} (h : b = true) (hp : ∃ x, p x) : ∃ x, @Bool.rec (fun _ => Prop) (q x) (p x) b := by subst h; exact hp
theorem exN {b : Bool} {p q : α → Prop} (h : b = false) (hq : ∃ x, q x) : ∃ x, @Bool.rec (fun _ => Prop) (q x) (p x) b := by subst h; exact hq
theorem exT {b : Bool} {p : α → Prop} (h : b = true) (hp : ∃ x, p x) : ∃ x, @Bool.rec (fun _ => Prop) False (p x) b := by subst h; exact hp
theorem exAnd {q : Prop} {p : α → Prop} (h : q) (hp : ∃ x, p x) : ∃ x, q ∧ p x := by obtain ⟨x, hx⟩ := hp; exact ⟨x, h, hx⟩
theorem exCall {P : Program} {f : FuncId} {args : List SV} {v : SV} {h : Heap} {R : α → AEnd → Heap → Prop} (hp : PCall P f args v) (hR : ∃ x, R x (.ret v) h) : ∃ x, ACall P f args h (R x) := by
  obtain ⟨x, hx⟩ := hR
  exact ⟨x, PCall.call hp hx⟩
theorem exSucc {P : Program} {b : ACode} {Q : α → AExit → Env → Heap → Prop} {m : Nat} {e : Env} {h : Heap} (hp : ∃ x, awp P b (backQ (Env.keys e) h.nxt (Q x) (ARound P b (Q x) m)) e h) : ∃ x, ARound P b (Q x) (m + 1) e h := by
  obtain ⟨x, hx⟩ := hp
  exact ⟨x, .succ hx⟩
theorem exRounds {P : Program} {b : ACode} {Q : α → AExit → Env → Heap → Prop} (m : Nat) {e : Env} {h : Heap} (hp : ∃ x, ARound P b (Q x) m e h) : ∃ x, ALoop P b (Q x) e h := by
  obtain ⟨x, hx⟩ := hp
  exact ⟨x, loop_rounds m hx⟩
/-- A loop that shortens what it goes through. -/
theorem exInd {P : Program} {b : ACode} {Q : α → AExit → Env → Heap → Prop} {β : Type} (env : β → Env) (μ : β → Nat) {h : Heap}
    (hs : ∀ (n : Nat) (s : β), (∀ s', μ s' < μ s → ∃ x, ARound P b (Q x) n (env s') h) → ∃ x, ARound P b (Q x) (n + 1) (env s) h) (t : β) : ∃ x, ALoop P b (Q x) (env t) h := by
  have key : ∀ (n : Nat) (s : β), μ s < n → ∃ x, ARound P b (Q x) n (env s) h := by
    intro n
    induction n with
    | zero => intro s hs; omega
    | succ n ih => exact fun s hlt => hs n s fun s' h' => ih s' (by omega)
  exact exRounds (μ t + 1) (key _ t (Nat.lt_succ_self _))
theorem exPure {P : Program} {f : FuncId} {args : List SV} {v : α → SV} (hargs : ∀ a ∈ args, LitV a) (hp : ∃ x, ACall P f args ⟨0, []⟩ fun r h' => ∃ v', r = .ret v' ∧ Hard h' v' (v x)) : ∃ x, PCall P f args (v x) := by
  obtain ⟨x, hx⟩ := hp
  exact ⟨x, pcall_of hargs hx⟩
end
/-- A loop whose rounds may make what lives on. -/
theorem loop_any {P : Program} {b : ACode} {Q : AExit → Env → Heap → Prop} {σ : Type} (env : σ → Env) (hp : σ → Heap) (μ : σ → Nat) (N : σ → Nat) (hN : ∀ s, (hp s).nxt ≤ N s)
    (step : ∀ s, awp P b (backQ (Env.keys (env s)) (N s) Q (fun e' h' => ∃ s', μ s' < μ s ∧ e' = env s' ∧ h' = hp s')) (env s) (hp s)) (s : σ) : ALoop P b Q (env s) (hp s) :=
  loop_okN (fun m e h => ∃ s, μ s = m ∧ e = env s ∧ h = hp s) (fun m e h ⟨s, hm, he, hh⟩ => by
    subst hm; subst he; subst hh
    exact ⟨N s, _, hN s, fun e' h' ⟨s', hlt, he, hh⟩ => ⟨μ s', hlt, s', rfl, he, hh⟩, step s⟩) ⟨s, rfl, rfl, rfl⟩
end Ab
namespace Ab
open Go Go.RowKit
theorem pcall_below {P : Program} {f : FuncId} {args : List SV} {v : SV} (hargs : ∀ a ∈ args, LitV a) (hl : LitV v)
    (hc : ∀ (Im : Nat → Prop) (w : World) (xs : Array Value), GlobOk Im w → (∀ b, Im b → b < w.heap.size) → xs.size = args.length → (∀ (i : Nat) (u : SV) (x : Value), args[i]? = some u → xs[i]? = some x → VP Im w u x) →
      Calls P f xs w fun e w' => (∃ x, e = .returned x ∧ VP Im w' v x) ∧ Below w.heap.size w w') : PCall P f args v := by
  refine pcall_of hargs ⟨fun c w xs hr hs hv => ?_⟩
  refine (hc c.Im w xs hr.glob hr.im hs fun i u x a b => (hargs _ (List.mem_of_getElem? a)).vp (hv i u x a b)).mono fun e w' ⟨⟨x, he, hx⟩, hb⟩ => ?_
  have hh : ∀ b, c.Im b → w'.heap[b]? = w.heap[b]? := fun b h => hb.block b (hr.im b h)
  refine ⟨c, ⟨0, []⟩, .ret v, ⟨v, rfl, .lit hl⟩, ⟨(fun i o ho => by cases ho), (fun i o ho => by cases ho), (fun i j o p ho => by cases ho), (fun i o ho => by cases ho), fun b h => Nat.lt_of_lt_of_le (hr.im b h) hb.size, hr.glob.mono (fun _ h => h) hh⟩,
    ⟨hb.os, hb.tape, hb.output, hb.size, fun b h _ => hb.block b h, fun b h => ?_, fun _ h => h, fun _ h => .inl h, Nat.le_refl _, (fun i o' _ ho => by cases ho), fun i o' ho => by cases ho⟩, x, he, .pure hx⟩
  unfold World.shape?
  rw [hb.block b h]
/-- The same for an answer that speaks of memory of its own. -/
theorem pcall_below2 {P : Program} {f : FuncId} {args : List SV} {v : SV} (hargs : ∀ a ∈ args, LitV a) (hl : LitV v)
    (hc : ∀ (Im : Nat → Prop) (w : World) (xs : Array Value), GlobOk Im w → (∀ b, Im b → b < w.heap.size) → xs.size = args.length → (∀ (i : Nat) (u : SV) (x : Value), args[i]? = some u → xs[i]? = some x → VP Im w u x) →
      Calls P f xs w fun e w' => (∃ x, e = .returned x ∧ VP (fun b => Im b ∨ (w.heap.size ≤ b ∧ b < w'.heap.size)) w' v x) ∧ Below w.heap.size w w') : PCall P f args v := by
  refine pcall_of hargs ⟨fun c w xs hr hs hv => ?_⟩
  refine (hc c.Im w xs hr.glob hr.im hs fun i u x a b => (hargs _ (List.mem_of_getElem? a)).vp (hv i u x a b)).mono fun e w' ⟨⟨x, he, hx⟩, hb⟩ => ?_
  have hh : ∀ b, c.Im b → w'.heap[b]? = w.heap[b]? := fun b h => hb.block b (hr.im b h)
  refine ⟨⟨c.β, fun b => c.Im b ∨ (w.heap.size ≤ b ∧ b < w'.heap.size)⟩, ⟨0, []⟩, .ret v, ⟨v, rfl, .lit hl⟩, ⟨(fun i o ho => by cases ho), (fun i o ho => by cases ho), (fun i j o p ho => by cases ho), (fun i o ho => by cases ho), fun b h => ?_, hr.glob.mono (fun _ h => .inl h) hh⟩,
    ⟨hb.os, hb.tape, hb.output, hb.size, fun b h _ => hb.block b h, fun b h => ?_, fun _ h => .inl h, fun b h => ?_, Nat.le_refl _, (fun i o' _ ho => by cases ho), fun i o' ho => by cases ho⟩, x, he, .pure hx⟩
  · rcases h with h | h
    · exact Nat.lt_of_lt_of_le (hr.im b h) hb.size
    · exact h.2
  · unfold World.shape?
    rw [hb.block b h]
  · rcases h with h | h
    · exact .inl h
    · exact .inr (.inl h.1)
theorem VP.str_inv' {Im : Nat → Prop} {w : World} {s : List UInt8} {x : Value} (h : VP Im w (.str s) x) : x = .string ⟨s.toArray⟩ := by cases h; rfl
theorem VP.int_inv' {Im : Nat → Prop} {w : World} {k : IntKind} {n : Int} {x : Value} (h : VP Im w (.int k n) x) : x = .int k n := by cases h; rfl
/-- A table's cells. -/
theorem GlobOk.tab {Im : Nat → Prop} {w : World} (h : GlobOk Im w) {g : Nat} (hne : globTab g ≠ []) : ∃ C ty fz, w.heap[g]? = some (.cells C ty fz) ∧ C = ((globTab g).map fun p => Value.int p.1 p.2).toArray := by
  obtain ⟨_, C, ty, fz, h1, h2, h3⟩ := h.1 g (.agg ((globTab g).map fun p => .int p.1 p.2)) (by unfold globSV; split; exact absurd (by assumption) hne; rfl)
  refine ⟨C, ty, fz, h1, ?_⟩
  simp only [SV.cells, List.length_map] at h2
  apply Array.ext
  · simpa using h2.symm
  · intro i a b
    have hi : i < (globTab g).length := by omega
    have := h3 i (.int ((globTab g)[i]).1 ((globTab g)[i]).2) C[i] (by simp [SV.cells, hi]) (by simp)
    rw [VP.int_inv' this]
    simp
theorem GlobOk.var {Im : Nat → Prop} {w : World} (h : GlobOk Im w) {P : Program} {n : String} {g : Nat} (hne : globTab g ≠ []) (hg : P.globalNamed n = some g) : w.var? P n = some ((globTab g).map fun p => Value.int p.1 p.2).toArray := by
  obtain ⟨C, ty, fz, h1, rfl⟩ := h.tab hne
  unfold World.var?
  rw [hg, Option.bind_some, h1]
theorem GlobOk.cell {Im : Nat → Prop} {w : World} (h : GlobOk Im w) {g j : Nat} {p : IntKind × Int} (hj : (globTab g)[j]? = some p) : w.cell? ⟨g, j, none⟩ = some (.int p.1 p.2) := by
  obtain ⟨C, ty, fz, h1, rfl⟩ := h.tab (g := g) (by rintro h0; rw [h0] at hj; simp at hj)
  unfold World.cell?
  rw [h1]
  simp [hj]
theorem args1 {Im : Nat → Prop} {w : World} {xs : Array Value} {a : SV} {x : Value} (hs : xs.size = 1) (hv : ∀ (i : Nat) (u : SV) (y : Value), [a][i]? = some u → xs[i]? = some y → VP Im w u y) (ha : ∀ y, VP Im w a y → y = x) : xs = #[x] := by
  apply Array.ext
  · simpa using hs
  · intro i h1 h2
    obtain rfl : i = 0 := by simp at h2; omega
    exact ha _ (hv 0 a _ rfl (by simp [h1]))
theorem args2 {Im : Nat → Prop} {w : World} {xs : Array Value} {a b : SV} {x y : Value} (hs : xs.size = 2) (hv : ∀ (i : Nat) (u : SV) (y : Value), [a, b][i]? = some u → xs[i]? = some y → VP Im w u y) (ha : ∀ z, VP Im w a z → z = x) (hb : ∀ z, VP Im w b z → z = y) : xs = #[x, y] := by
  apply Array.ext
  · simpa using hs
  · intro i h1 h2
    rcases i with _ | _ | i
    · exact ha _ (hv 0 a _ rfl (by simp [h1]))
    · exact hb _ (hv 1 b _ rfl (by simp [h1]))
    · exfalso; simp at h2; omega
theorem args3 {Im : Nat → Prop} {w : World} {xs : Array Value} {a b c : SV} {x y z : Value} (hs : xs.size = 3) (hv : ∀ (i : Nat) (u : SV) (y : Value), [a, b, c][i]? = some u → xs[i]? = some y → VP Im w u y) (ha : ∀ z, VP Im w a z → z = x) (hb : ∀ z, VP Im w b z → z = y) (hc : ∀ u, VP Im w c u → u = z) : xs = #[x, y, z] := by
  apply Array.ext
  · simpa using hs
  · intro i h1 h2
    rcases i with _ | _ | _ | i
    · exact ha _ (hv 0 a _ rfl (by simp [h1]))
    · exact hb _ (hv 1 b _ rfl (by simp [h1]))
    · exact hc _ (hv 2 c _ rfl (by simp [h1]))
    · exfalso; simp at h2; omega
theorem below_grow {B : Nat} {a w : World} (os : Array Obj) (h : Below B a w) (hB : B ≤ w.heap.size) : Below B a (Sort.grow w os) := by
  refine ⟨h.os, h.tape, h.output, ?_, fun k hk => ?_⟩
  · show a.heap.size ≤ (w.heap ++ os).size
    have := h.size
    simp only [Array.size_append]; omega
  · show (w.heap ++ os)[k]? = _
    rw [Array.getElem?_append_left (by omega)]
    exact h.block k hk
end Ab
