/- Arguments as they come in, read as symbolic values; a law's last words, whatever its arguments. -/
import Derived.Test.YtboinbjiemmggaaDoorAbI
namespace Ab
open Go Go.RowKit
set_option linter.unusedVariables false
set_option linter.unusedSimpArgs false

theorem mapM_some {α β : Type} {f : α → Option β} : ∀ {l : List α} {ys : List β}, l.mapM f = some ys → ys.length = l.length ∧ ∀ (i : Nat) (x : α), l[i]? = some x → ∃ y, ys[i]? = some y ∧ f x = some y
  | [], ys, h => by simp at h; subst h; exact ⟨rfl, fun i x hx => by simp at hx⟩
  | a :: l, ys, h => by
    rw [List.mapM_cons] at h
    cases hf : f a with
    | none => rw [hf] at h; cases h
    | some b =>
      cases hl : l.mapM f with
      | none => rw [hf, hl] at h; cases h
      | some bs =>
        rw [hf, hl] at h
        have h' : some (b :: bs) = some ys := h
        cases h'
        obtain ⟨h1, h2⟩ := mapM_some hl
        refine ⟨by simp [h1], fun i x hx => ?_⟩
        cases i with
        | zero => simp at hx; subst hx; exact ⟨b, rfl, hf⟩
        | succ i => simp at hx; obtain ⟨y, hy, hfy⟩ := h2 i x hx; exact ⟨y, by simpa using hy, hfy⟩

def CR2 (w : World) (svs : List SV) (cs : List Value) : Prop := cs.length = svs.length ∧ ∀ (j : Nat) (u : SV) (y : Value), svs[j]? = some u → cs[j]? = some y → VP (fun b => b < w.heap.size) w u y

/-- How values of a type that were read are told: what they are read as, and the cells of that. -/
structure Rd (P : Program) (t : TypeId) (α : Type) where
  sv : α → List SV
  ok : α → Prop
  sz : Nat
  szof : P.cellsOf t = sz
  len : ∀ x, (sv x).length = sz
  rich : α → Prop
  rd : ∀ {H : Type} {enc : TypeId × Value → H} {w : World} {base : Nat} {spare : Nat → Bool} {held : Bool} {fuel : Nat} {cs : List Value} {d : DataW H} {ps : List MemPlace},
    DataW.trod enc P w base spare held fuel t cs = some (d, ps) → ∃ x, ok x ∧ ((d.weights P t).all (· ≤ reachBytes) = true → rich x) ∧ CR2 w (sv x) cs

theorem cr2_one {w : World} {u : SV} {y : Value} (h : VP (fun b => b < w.heap.size) w u y) : CR2 w [u] [y] := by
  refine ⟨rfl, fun j u' y' h1 h2 => ?_⟩
  cases j with
  | zero => simp at h1 h2; subst h1; subst h2; exact h
  | succ j => simp at h1

section
variable {P : Program} {t : TypeId}
def Rd.int {k : IntKind} (hu : P.underlying t = some (.int k)) (hc : P.cellsOf t = 1) : Rd P t Int where
  sv n := [.int k n]
  ok n := k.min ≤ n ∧ n ≤ k.max
  rich _ := True
  sz := 1
  szof := hc
  len _ := rfl
  rd {H enc w base spare held fuel cs d ps} h := by
    cases fuel with
    | zero => simp [DataW.trod] at h
    | succ fuel =>
      unfold DataW.trod at h
      rw [hu] at h
      split at h <;> (try rename_i he; try (cases he)) <;> try cases h
      rename_i k' n
      split at h
      · rename_i hk
        obtain ⟨rfl, hwf⟩ := hk
        simp only [Lit.wf, Bool.and_eq_true, decide_eq_true_eq] at hwf
        exact ⟨n, hwf, fun _ => trivial, cr2_one (.int _ _)⟩
      · cases h
def Rd.bool (hu : P.underlying t = some .bool) (hc : P.cellsOf t = 1) : Rd P t Bool where
  sv b := [.bool b]
  ok _ := True
  rich _ := True
  sz := 1
  szof := hc
  len _ := rfl
  rd {H enc w base spare held fuel cs d ps} h := by
    cases fuel with
    | zero => simp [DataW.trod] at h
    | succ fuel =>
      unfold DataW.trod at h
      rw [hu] at h
      split at h <;> (try rename_i he; try (cases he)) <;> try cases h
      exact ⟨_, trivial, fun _ => trivial, cr2_one (.bool _)⟩
def Rd.str (hu : P.underlying t = some .string) (hc : P.cellsOf t = 1) : Rd P t (List UInt8) where
  sv s := [.str s]
  ok s := s.length ≤ 9223372036854775807
  rich s := s.length ≤ 140737488351232
  sz := 1
  szof := hc
  len _ := rfl
  rd {H enc w base spare held fuel cs d ps} h := by
    cases fuel with
    | zero => simp [DataW.trod] at h
    | succ fuel =>
      unfold DataW.trod at h
      rw [hu] at h
      split at h <;> (try rename_i he; try (cases he)) <;> try cases h
      rename_i s
      split at h
      · rename_i hs
        refine ⟨s.data.toList, ?_, fun hw => ?_, cr2_one ?_⟩
        · have e : s.data.toList.length = s.size := by rw [Array.length_toList]; rfl
          unfold maxLen at hs
          omega
        · cases h
          have e : s.data.toList.length = s.size := by rw [Array.length_toList]; rfl
          have hw' := of_decide_eq_true (List.all_eq_true.1 hw _ (List.mem_singleton.2 rfl))
          unfold reachBytes at hw'
          have e3 : s.toList.length = s.data.toList.length := by rw [ByteArray.toList_eq]
          omega
        · have := VP.str (Im := fun b => b < w.heap.size) (w := w) s.data.toList
          simpa using this
      · cases h

/-- The fields of a struct, one behind the other. -/
structure RdF (P : Program) (fs : List Field) (off : Nat) (α : Type) where
  sv : α → List SV
  ok : α → Prop
  sz : Nat
  len : ∀ x, (sv x).length = sz
  rich : α → Prop
  rd : ∀ {H : Type} {enc : TypeId × Value → H} {w : World} {base : Nat} {spare : Nat → Bool} {held : Bool} {fuel : Nat} {cs : List Value} {xs : List (DataW H × List MemPlace)},
    fs.mapM (fun f => DataW.trod enc P w base spare held fuel f.type ((cs.drop f.offset).take (P.cellsOf f.type))) = some xs → ∃ x, ok x ∧ ((DataW.weightsEach P (fs.map (·.type)) (xs.map (·.1))).all (· ≤ reachBytes) = true → rich x) ∧ ∀ (j : Nat) (u : SV) (y : Value), (sv x)[j]? = some u → cs[off + j]? = some y → VP (fun b => b < w.heap.size) w u y
def RdF.nil {off : Nat} : RdF P [] off Unit where
  sv _ := []
  ok _ := True
  rich _ := True
  sz := 0
  len _ := rfl
  rd _ := ⟨(), trivial, fun _ => trivial, fun j u y h => by simp at h⟩
def RdF.cons {f : Field} {fs : List Field} {off : Nat} {α β : Type} (r : Rd P f.type α) (ho : f.offset = off) (rest : RdF P fs (off + r.sz) β) : RdF P (f :: fs) off (α × β) where
  sv x := r.sv x.1 ++ rest.sv x.2
  ok x := r.ok x.1 ∧ rest.ok x.2
  rich x := r.rich x.1 ∧ rest.rich x.2
  sz := r.sz + rest.sz
  len x := by rw [List.length_append, r.len, rest.len]
  rd {H enc w base spare held fuel cs xs} h := by
    rw [List.mapM_cons] at h
    cases hf : DataW.trod enc P w base spare held fuel f.type ((cs.drop f.offset).take (P.cellsOf f.type)) with
    | none => rw [hf] at h; cases h
    | some b =>
      cases hl : fs.mapM (fun f => DataW.trod enc P w base spare held fuel f.type ((cs.drop f.offset).take (P.cellsOf f.type))) with
      | none => rw [hf, hl] at h; cases h
      | some bs =>
        obtain ⟨x, hx, hwx, hlen, hcr⟩ := r.rd (d := b.1) (ps := b.2) hf
        obtain ⟨y, hy, hwy, hcr'⟩ := rest.rd hl
        have hxs : b :: bs = xs := by rw [hf, hl] at h; exact Option.some.inj h
        subst hxs
        refine ⟨(x, y), ⟨hx, hy⟩, fun hw => ?_, fun j u z hu hz => ?_⟩
        · simp only [List.map_cons, DataW.weightsEach, List.all_append, Bool.and_eq_true] at hw
          exact ⟨hwx hw.1, hwy hw.2⟩
        rw [List.getElem?_append] at hu
        rw [r.len] at hu
        by_cases hj : j < r.sz
        · rw [if_pos hj] at hu
          refine hcr j u z hu ?_
          rw [List.getElem?_take, r.szof, if_pos hj, List.getElem?_drop, ho]
          exact hz
        · rw [if_neg hj] at hu
          refine hcr' (j - r.sz) u z hu ?_
          rw [← hz]
          congr 1
          omega
def Rd.struct {fs : Array Field} {α : Type} (hu : P.underlying t = some (.struct fs)) (rf : RdF P fs.toList 0 α) (hc : P.cellsOf t = rf.sz) : Rd P t α where
  sv := rf.sv
  ok := rf.ok
  rich := rf.rich
  sz := rf.sz
  szof := hc
  len := rf.len
  rd {H enc w base spare held fuel cs d ps} h := by
    cases fuel with
    | zero => simp [DataW.trod] at h
    | succ fuel =>
      unfold DataW.trod at h
      rw [hu] at h
      dsimp only at h
      split at h
      · rename_i hlen
        cases hm : fs.toList.mapM (fun f => DataW.trod enc P w base spare held fuel f.type ((cs.drop f.offset).take (P.cellsOf f.type))) with
        | none => rw [hm] at h; cases h
        | some xs =>
          obtain ⟨x, hx, hwx, hcr⟩ := rf.rd hm
          rw [hm] at h
          have hd : d = .agg (xs.map (·.1)) := by cases h; rfl
          exact ⟨x, hx, fun hw => hwx (by rw [hd] at hw; simp only [DataW.weights, hu] at hw; exact hw), by rw [hlen, hc, rf.len], fun j u y h1 h2 => hcr j u y h1 (by rw [Nat.zero_add]; exact h2)⟩
      · cases h

/-- The same values, told in other words. -/
def Rd.map {α β : Type} (r : Rd P t α) (g : α → β) (sv : β → List SV) (ok : β → Prop) (h1 : ∀ x, r.sv x = sv (g x)) (h2 : ∀ x, r.ok x → ok (g x)) (h3 : ∀ y, (sv y).length = r.sz) : Rd P t β where
  sv := sv
  ok := ok
  rich y := ∃ x, g x = y ∧ r.rich x
  sz := r.sz
  szof := r.szof
  len := h3
  rd h := by
    obtain ⟨x, hx, hw, hc⟩ := r.rd h
    exact ⟨g x, h2 x hx, fun h => ⟨x, rfl, hw h⟩, h1 x ▸ hc⟩

theorem cells_at {w : World} {base : Nat} {a : Addr} {n : Nat} {cs : List Value} (h : w.cells? base a n = some cs) : cs.length = n ∧ ∀ j, j < n → ∃ y, cs[j]? = some y ∧ w.cell? (a.add j) = some y := by
  unfold World.cells? at h
  split at h
  · obtain ⟨h1, h2⟩ := mapM_some h
    rw [List.length_range] at h1
    refine ⟨h1, fun j hj => ?_⟩
    exact h2 j j (by rw [List.getElem?_range hj])
  · cases h

theorem weightsAll_at {H : Type} {e : TypeId} : ∀ {l : List (DataW H)}, (DataW.weightsAll P e l).all (· ≤ reachBytes) = true → ∀ {i : Nat} {d : DataW H}, l[i]? = some d → (d.weights P e).all (· ≤ reachBytes) = true
  | [], _, i, d, h => by simp at h
  | d0 :: l, hw, i, d, h => by
    simp only [DataW.weightsAll, List.all_append, Bool.and_eq_true] at hw
    cases i with
    | zero => simp at h; subst h; exact hw.1
    | succ i => exact weightsAll_at hw.2 (by simpa using h)
def Rd.slice {e : TypeId} {α : Type} (hu : P.underlying t = some (.slice e)) (hc : P.cellsOf t = 1) (r : Rd P e α) (hsz : 0 < r.sz) (mk : α → SV) (hmk : ∀ x, (mk x).cells = r.sv x) (dflt : α) : Rd P t (List α) where
  sv l := [.lst r.sz l.length fun i => mk (l.getD i dflt)]
  ok l := (∀ x ∈ l, r.ok x) ∧ l.length ≤ 9223372036854775807
  rich l := (∀ x ∈ l, r.rich x) ∧ l.length * P.bytesOf e ≤ 140737488351232
  sz := 1
  szof := hc
  len _ := rfl
  rd {H enc w base spare held fuel cs d ps} h := by
    cases fuel with
    | zero => simp [DataW.trod] at h
    | succ fuel =>
      unfold DataW.trod at h
      rw [hu] at h
      split at h <;> (try rename_i he; try (cases he)) <;> try cases h
      · exact ⟨[], ⟨(fun x hx => by cases hx), Nat.zero_le _⟩, fun _ => ⟨(fun x hx => by cases hx), by simp⟩, cr2_one (.lst0 _ _ _ _)⟩
      · rename_i a len cap
        dsimp only at h
        split at h
        · rename_i hcond
          obtain ⟨hb, hlc, hcm⟩ := hcond
          cases hm : (List.range len).mapM (fun i => (w.cells? base (a.add (i * P.cellsOf e)) (P.cellsOf e)).bind (DataW.trod enc P w base spare held fuel e)) with
          | none => rw [hm] at h; cases h
          | some elems =>
            obtain ⟨h1, h2⟩ := mapM_some hm
            have hel : ∀ i, i < len → ∃ x ci, (r.ok x ∧ ∀ y, elems[i]? = some y → (y.1.weights P e).all (· ≤ reachBytes) = true → r.rich x) ∧ CR2 w (r.sv x) ci ∧ w.cells? base (a.add (i * r.sz)) r.sz = some ci := by
              intro i hi
              obtain ⟨y, hyi, hy⟩ := h2 i i (by rw [List.getElem?_range hi])
              rw [r.szof] at hy
              cases hci : w.cells? base (a.add (i * r.sz)) r.sz with
              | none => rw [hci] at hy; cases hy
              | some ci =>
                rw [hci] at hy
                obtain ⟨x, hx, hwx, hcr⟩ := r.rd (d := y.1) (ps := y.2) hy
                exact ⟨x, ci, ⟨hx, fun y' hy' hw => hwx (by rw [hyi] at hy'; cases hy'; exact hw)⟩, hcr, rfl⟩
            classical
            let f : Nat → α := fun i => if hi : i < len then Classical.choose (hel i hi) else dflt
            have hf : ∀ i, i < len → ∃ ci, (r.ok (f i) ∧ ∀ y, elems[i]? = some y → (y.1.weights P e).all (· ≤ reachBytes) = true → r.rich (f i)) ∧ CR2 w (r.sv (f i)) ci ∧ w.cells? base (a.add (i * r.sz)) r.sz = some ci := fun i hi => by
              have e1 : f i = Classical.choose (hel i hi) := by simp only [f]; rw [dif_pos hi]
              rw [e1]
              exact Classical.choose_spec (hel i hi)
            have hgetD : ∀ i, i < len → ((List.range len).map f).getD i dflt = f i := fun i hi => by simp [List.getD, hi]
            have hlen : ((List.range len).map f).length = len := by simp
            refine ⟨(List.range len).map f, ⟨fun x hx => ?_, by rw [hlen]; unfold maxLen at hcm; omega⟩, fun hw => ?_, cr2_one ?_⟩
            · obtain ⟨i, hi, rfl⟩ := List.mem_map.1 hx
              exact (hf i (List.mem_range.1 hi)).choose_spec.1.1
            · rw [hm] at h
              have hel2 : elems.length = len := by rw [h1, List.length_range]
              have hd : ∃ sp, d = .slice (elems.map (·.1)) sp := by
                simp only [Option.bind_eq_bind, Option.bind_some] at h
                obtain ⟨sp, _, h⟩ := Option.map_eq_some_iff.1 h
                exact ⟨_, (Prod.mk.inj h).1.symm⟩
              obtain ⟨sp, rfl⟩ := hd
              simp only [DataW.weights, hu, List.all_cons, List.all_append, Bool.and_eq_true, List.length_map, decide_eq_true_eq] at hw
              refine ⟨fun x hx => ?_, ?_⟩
              · obtain ⟨i, hi, rfl⟩ := List.mem_map.1 hx
                have hi := List.mem_range.1 hi
                obtain ⟨ci, hok, _⟩ := hf i hi
                refine hok.2 elems[i] (List.getElem?_eq_getElem (by omega)) ?_
                exact weightsAll_at hw.2.1 (i := i) (by rw [List.getElem?_map, List.getElem?_eq_getElem (by omega)]; rfl)
              · rw [hlen]
                have hw1 := hw.1
                rw [hel2] at hw1
                have : len * P.bytesOf e ≤ (len + sp.length) * P.bytesOf e := Nat.mul_le_mul_right _ (by omega)
                unfold reachBytes at hw1
                omega
            · rw [hlen]
              rcases Nat.eq_zero_or_pos len with h0 | h0
              · subst h0; exact .lst0 _ _ _ _
              · -- the block
                have hcell : ∀ i j, i < len → j < r.sz → ∃ y, w.cell? ((a.add (i * r.sz)).add j) = some y ∧ ∀ u, (r.sv (f i))[j]? = some u → VP (fun b => b < w.heap.size) w u y := by
                  intro i j hi hj
                  obtain ⟨ci, _, hcr, hci⟩ := hf i hi
                  obtain ⟨hl, hat⟩ := cells_at hci
                  obtain ⟨y, hy, hw⟩ := hat j hj
                  exact ⟨y, hw, fun u hu => hcr.2 j u y hu hy⟩
                obtain ⟨y0, hw0, _⟩ := hcell 0 0 h0 hsz
                have hspot : a.spot = none := by
                  cases hs : a.spot with
                  | none => rfl
                  | some p =>
                    exfalso
                    simp only [Nat.zero_mul, Addr.add, hs] at hw0
                    unfold World.cell? at hw0
                    split at hw0
                    · simp at hw0
                      rw [hs] at hw0
                      cases hw0.1
                    · cases hw0
                obtain ⟨b, off, sp⟩ := a
                simp only at hspot
                subst hspot
                have hadd : ∀ i j, ((⟨b, off, none⟩ : Addr).add (i * r.sz)).add j = ⟨b, off + i * r.sz + j, none⟩ := fun i j => by rw [add_eq, add_eq]
                rw [hadd] at hw0
                unfold World.cell? at hw0
                split at hw0
                · rename_i C ty fz hC
                  have hall : ∀ i j, i < len → j < r.sz → ∃ y, C[off + i * r.sz + j]? = some y ∧ ∀ u, (r.sv (f i))[j]? = some u → VP (fun b => b < w.heap.size) w u y := by
                    intro i j hi hj
                    obtain ⟨y, hw, hv⟩ := hcell i j hi hj
                    rw [hadd] at hw
                    simp only [World.cell?, hC, Option.isSome_none] at hw
                    exact ⟨y, by simpa using hw, hv⟩
                  have hblt : b < w.heap.size := by
                    rcases Nat.lt_or_ge b w.heap.size with hh | hh
                    · exact hh
                    · rw [Array.getElem?_eq_none hh] at hC; cases hC
                  refine .lst _ _ _ b off cap C ty fz hblt hC ?_ hlc (fun i hi => by rw [hmk, r.len]) fun i j v x hi hv hx => ?_
                  · obtain ⟨y, hy, _⟩ := hall (len - 1) (r.sz - 1) (by omega) (by omega)
                    have hlt : off + (len - 1) * r.sz + (r.sz - 1) < C.size := by
                      rcases Nat.lt_or_ge (off + (len - 1) * r.sz + (r.sz - 1)) C.size with hh | hh
                      · exact hh
                      · rw [Array.getElem?_eq_none hh] at hy; cases hy
                    have e1 : len * r.sz = (len - 1) * r.sz + r.sz := by
                      rw [← Nat.succ_mul]; congr 1; omega
                    omega
                  · rw [hmk, hgetD i hi] at hv
                    have hj : j < r.sz := by rw [← r.len (f i)]; exact getq_lt hv
                    obtain ⟨y, hy, hvp⟩ := hall i j hi hj
                    rw [hy] at hx; cases hx
                    exact hvp v hv
                · cases hw0
        · cases h

/-- One argument, of one cell. -/
theorem Rd.one {α : Type} (r : Rd P t α) {H : Type} {enc : TypeId × Value → H} {w : World} {base : Nat} {spare : Nat → Bool} {held : Bool} {v : Value} {d : DataW H} {ps : List MemPlace} (h : DataW.Trod enc P w base spare held t v d ps) (mk : α → SV) (h1 : ∀ x, r.sv x = [mk x]) (hna : ∀ cs, v ≠ .agg cs) :
    ∃ x, r.ok x ∧ VP (fun b => b < w.heap.size) w (mk x) v := by
  obtain ⟨fuel, hf⟩ := h
  obtain ⟨x, hx, _, _, hcr⟩ := r.rd hf
  refine ⟨x, hx, hcr 0 (mk x) v (by rw [h1]; rfl) ?_⟩
  cases v <;> first | rfl | exact absurd rfl (hna _)
/-- One argument, a struct. -/
theorem Rd.agg {α : Type} (r : Rd P t α) {fs : Array Field} (hu : P.underlying t = some (.struct fs)) {H : Type} {enc : TypeId × Value → H} {w : World} {base b0 : Nat} {spare : Nat → Bool} {held : Bool} {v : Value} {d : DataW H} {ps : List MemPlace} {rr : Reach} (hv : Value.okWide P w rr b0 t v)
    (h : DataW.Trod enc P w base spare held t v d ps) : ∃ x, r.ok x ∧ VP (fun b => b < w.heap.size) w (.agg (r.sv x)) v := by
  obtain ⟨fuel, hf⟩ := h
  obtain ⟨x, hx, _, hl, hcr⟩ := r.rd hf
  unfold Value.okWide at hv
  rw [hu] at hv
  obtain ⟨cs, rfl, hcs, _⟩ := hv
  have e : Value.cells (.agg cs) = cs := rfl
  rw [e] at hl hcr
  exact ⟨x, hx, .agg _ _ (by simpa using hl) fun i u y h1 h2 => hcr i u y h1 (by simpa using h2)⟩
theorem Rd.one' {α : Type} (r : Rd P t α) {H : Type} {enc : TypeId × Value → H} {w : World} {base : Nat} {spare : Nat → Bool} {held : Bool} {v : Value} {d : DataW H} {ps : List MemPlace} (h : DataW.Trod enc P w base spare held t v d ps) (mk : α → SV) (h1 : ∀ x, r.sv x = [mk x]) (hna : ∀ cs, v ≠ .agg cs) (hw : (d.weights P t).all (· ≤ reachBytes) = true) :
    ∃ x, (r.ok x ∧ r.rich x) ∧ VP (fun b => b < w.heap.size) w (mk x) v := by
  obtain ⟨fuel, hf⟩ := h
  obtain ⟨x, hx, hr, _, hcr⟩ := r.rd hf
  refine ⟨x, ⟨hx, hr hw⟩, hcr 0 (mk x) v (by rw [h1]; rfl) ?_⟩
  cases v <;> first | rfl | exact absurd rfl (hna _)
theorem Rd.agg' {α : Type} (r : Rd P t α) {fs : Array Field} (hu : P.underlying t = some (.struct fs)) {H : Type} {enc : TypeId × Value → H} {w : World} {base b0 : Nat} {spare : Nat → Bool} {held : Bool} {v : Value} {d : DataW H} {ps : List MemPlace} {rr : Reach} (hv : Value.okWide P w rr b0 t v)
    (h : DataW.Trod enc P w base spare held t v d ps) (hw : (d.weights P t).all (· ≤ reachBytes) = true) : ∃ x, (r.ok x ∧ r.rich x) ∧ VP (fun b => b < w.heap.size) w (.agg (r.sv x)) v := by
  obtain ⟨fuel, hf⟩ := h
  obtain ⟨x, hx, hr, hl, hcr⟩ := r.rd hf
  unfold Value.okWide at hv
  rw [hu] at hv
  obtain ⟨cs, rfl, hcs, _⟩ := hv
  have e : Value.cells (.agg cs) = cs := rfl
  rw [e] at hl hcr
  exact ⟨x, ⟨hx, hr hw⟩, .agg _ _ (by simpa using hl) fun i u y h1 h2 => hcr i u y h1 (by simpa using h2)⟩
theorem not_agg {k : TypeDesc} (hu : P.underlying t = some k) (hk : (match k with | .struct _ | .array _ _ => false | _ => true) = true) {w : World} {rr : Reach} {b0 : Nat} {v : Value} (hv : Value.okWide P w rr b0 t v) {H : Type} {enc : TypeId × Value → H} {base : Nat} {spare : Nat → Bool} {held : Bool}
    {d : DataW H} {ps : List MemPlace} (h : DataW.Trod enc P w base spare held t v d ps) : ∀ cs, v ≠ .agg cs := by
  intro cs hcs
  subst hcs
  unfold Value.okWide at hv
  rw [hu] at hv
  cases k <;> simp at hk <;> simp [Cell.okWide, Cell.ok, hu] at hv
end

/-- The arguments read behind the call as they did before. -/
theorem below_all {H : Type} {enc : TypeId × Value → H} {P : Program} (hl : laidOutB P = true) {W W' : World} (hb : Below W.heap.size W W') : ∀ {ts : List TypeId} {vs : List Value} {ds : List (DataW H)} {ps : List MemPlace},
    (ts.all fun t => P.readableRec t && decide (t < P.types.size)) = true → DataW.TrodAll enc P W 0 (fun _ => true) true ts vs ds ps → (∀ x ∈ ps, x.block < W.heap.size) → DataW.TrodAll enc P W' 0 (fun b => decide (b < W.heap.size)) true ts vs ds ps
  | [], [], [], ps, _, h, _ => h
  | t :: ts, v :: vs, d :: ds, ps, hall, ⟨p, q, h1, h2, he⟩, hlt => by
    subst he
    simp only [List.all_cons, Bool.and_eq_true, decide_eq_true_eq] at hall
    exact ⟨p, q, Below.trod hl hall.1.1 hall.1.2 h1 hb (fun x hx => hlt x (by simp [hx])), below_all hl hb hall.2 h2 (fun x hx => hlt x (by simp [hx])), rfl⟩
end Ab
