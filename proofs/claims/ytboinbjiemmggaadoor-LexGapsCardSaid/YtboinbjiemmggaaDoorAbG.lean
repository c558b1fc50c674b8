/- Functions of values alone: what they are given and what they answer speaks of no name. -/
import Derived.Test.YtboinbjiemmggaaDoorAbF
namespace Ab
set_option linter.unusedVariables false
set_option linter.unusedSimpArgs false
open Go

/-- A value that speaks of no name. -/
inductive LitV : SV → Prop
  | undef : LitV .undef
  | bool (b : Bool) : LitV (.bool b)
  | int (k : IntKind) (n : Int) : LitV (.int k n)
  | str (s : List UInt8) : LitV (.str s)
  | nilp : LitV .nilp
  | ipt (v : SV) (sub : Nat) : LitV (.ipt v sub)
  | glob (g : Nat) : LitV (.glob g)
  | nils : LitV .nils
  | lst (sz n : Nat) (get : Nat → SV) : LitV (.lst sz n get)
  | nilf : LitV .nilf
  | nili : LitV .nili
  | nilm : LitV .nilm
  | iface (t : TypeId) {v : SV} (h : LitV v) : LitV (.iface t v)
  | agg {l : List SV} (h : ∀ v ∈ l, LitV v) : LitV (.agg l)
  | tup {l : List SV} (h : ∀ v ∈ l, LitV v) : LitV (.tup l)
  | func (fn : Fn) {a b : List SV} (h : ∀ v ∈ a, LitV v) (h' : ∀ v ∈ b, LitV v) : LitV (.func fn a b)

theorem LitV.vp {v : SV} (hl : LitV v) : ∀ {c : Cx} {h : Heap} {w : World} {x : Value}, VR c h w v x → VP c.Im w v x := by
  induction hl with
  | iface t _ ih => intro c h w x hv; obtain ⟨y, rfl, hy⟩ := hv.iface_inv; exact .iface _ _ _ (ih hy)
  | agg _ ih => intro c h w x hv; obtain ⟨cs, rfl, h1, h2⟩ := hv.agg_inv; exact .agg _ _ h1 fun i v x a b => ih v (List.mem_of_getElem? a) (h2 i v x a b)
  | tup _ ih => intro c h w x hv; obtain ⟨cs, rfl, h1, h2⟩ := hv.tup_inv; exact .tup _ _ h1 fun i v x a b => ih v (List.mem_of_getElem? a) (h2 i v x a b)
  | func fn _ _ ih ih' => intro c h w x hv; obtain ⟨a', b', rfl, h1, h2, h3, h4⟩ := hv.func_inv; exact .func _ _ _ _ _ h1 h2 (fun i v x a b => ih v (List.mem_of_getElem? a) (h3 i v x a b)) fun i v x a b => ih' v (List.mem_of_getElem? a) (h4 i v x a b)
  | _ => intro c h w x hv; cases hv with | pure hv => exact hv

/-- What a value comes to, if the blocks that it speaks of are written no more. -/
inductive Hard (A : Heap) : SV → SV → Prop
  | row {sz n : Nat} {get get' : Nat → SV} (h : ∀ j, j < n → Lk (get' j) (get j)) : Hard A (.lst sz n get) (.lst sz n get')
  | lit {v : SV} (h : LitV v) : Hard A v v
  | iface (t : TypeId) {v v' : SV} (h : Hard A v v') : Hard A (.iface t v) (.iface t v')
  | agg {l l' : List SV} (hl : l.length = l'.length) (h : ∀ (i : Nat) (v v' : SV), l[i]? = some v → l'[i]? = some v' → Hard A v v') : Hard A (.agg l) (.agg l')
  | tup {l l' : List SV} (hl : l.length = l'.length) (h : ∀ (i : Nat) (v v' : SV), l[i]? = some v → l'[i]? = some v' → Hard A v v') : Hard A (.tup l) (.tup l')
  | sl {i g sz off len : Nat} {cap : Option Nat} {elems : List SV} {sk : Sk} {get : Nat → SV} (ho : A.obj i = some (.vec g sz elems sk)) (hle : off + len ≤ elems.length)
      (h : ∀ (j : Nat) (v : SV), j < len → elems[off + j]? = some v → Hard A v (get j)) : Hard A (.sl i g sz off len cap) (.lst sz len get)
  | same {sz n : Nat} {get get' : Nat → SV} (h : ∀ j, j < n → get j = get' j) : Hard A (.lst sz n get) (.lst sz n get')
  | ref {i g idx sub sz : Nat} {elems : List SV} {sk : Sk} {v v' : SV} (ho : A.obj i = some (.vec g sz elems sk)) (hi : elems[idx]? = some v) (h : Hard A v v') : Hard A (.ref i g idx sub) (.ipt v' sub)

theorem Hard.cells {A : Heap} {v v' : SV} (h : Hard A v v') : v'.cells.length = v.cells.length ∧ ∀ (j : Nat) (u u' : SV), v.cells[j]? = some u → v'.cells[j]? = some u' → Hard A u u' := by
  have one : ∀ {v v' : SV}, Hard A v v' → v.cells = [v] → v'.cells = [v'] → v'.cells.length = v.cells.length ∧ ∀ (j : Nat) (u u' : SV), v.cells[j]? = some u → v'.cells[j]? = some u' → Hard A u u' := by
    intro v v' h h1 h2
    rw [h1, h2]
    refine ⟨rfl, fun j u u' hu hu' => ?_⟩
    cases j with
    | zero => simp at hu hu'; subst hu; subst hu'; exact h
    | succ j => simp at hu
  cases h with
  | lit hl =>
    refine ⟨rfl, fun j u u' hu hu' => ?_⟩
    rw [hu] at hu'; cases hu'
    cases hl with
    | agg hh => exact .lit (hh u (List.mem_of_getElem? hu))
    | _ => cases j with
      | zero => simp only [SV.cells, List.getElem?_cons_zero, Option.some.injEq] at hu; subst hu; exact .lit (by constructor <;> assumption)
      | succ j => simp [SV.cells] at hu
  | iface t h => exact one (.iface t h) rfl rfl
  | agg hl h => exact ⟨hl.symm, h⟩
  | tup hl h => exact one (.tup hl h) rfl rfl
  | sl ho hle h => exact one (.sl ho hle h) rfl rfl
  | same h => exact one (.same h) rfl rfl
  | row h => exact one (.row h) rfl rfl
  | ref ho hi h => exact one (.ref ho hi h) rfl rfl

theorem elem_vp {A : Heap} {c : Cx} {w : World} {Im : Nat → Prop} {v v' : SV} {C : Array Value} {base : Nat} (hh : Hard A v v') (ih : ∀ {x : Value}, VR c A w v x → VP Im w v' x)
    (hcell : ∀ (p : Nat) (u : SV) (y : Value), v.cells[p]? = some u → C[base + p]? = some y → VR c A w u y) (hs : base + v.cells.length ≤ C.size) {p : Nat} {u : SV} {y : Value} (hu : v'.cells[p]? = some u) (hy : C[base + p]? = some y) : VP Im w u y := by
  by_cases hagg : ∃ l, v = .agg l
  · obtain ⟨l, rfl⟩ := hagg
    have hp : p < l.length := by
      have : v'.cells.length = l.length := hh.cells.1
      rcases Nat.lt_or_ge p l.length with h | h
      · exact h
      · rw [List.getElem?_eq_none (by omega)] at hu; cases hu
    refine VP.cells (ih (x := .agg (C.extract base (base + l.length))) (.agg _ _ ?_ fun i v x a b => ?_)) hu ?_
    · simp only [SV.cells] at hs
      simp; omega
    · have hi : i < l.length := by
        rcases Nat.lt_or_ge i l.length with h | h
        · exact h
        · rw [List.getElem?_eq_none h] at a; cases a
      rw [Array.getElem?_extract] at b
      split at b
      · exact hcell i v x a b
      · cases b
    · simp only [Value.cells, Array.getElem?_extract]
      simp only [SV.cells] at hs
      rw [if_pos (by omega)]
      exact hy
  · have h1 : v.cells = [v] := by cases v <;> first | rfl | exact absurd ⟨_, rfl⟩ hagg
    have hp : p = 0 := by
      have := hh.cells.1
      rw [h1] at this
      rcases Nat.eq_zero_or_pos p with h | h
      · exact h
      · rw [List.getElem?_eq_none (by simp at this; omega)] at hu; cases hu
    subst hp
    have hv := hcell 0 v y (by rw [h1]; rfl) hy
    by_cases hun : v = .undef
    · subst hun
      cases hh with
      | lit hl => simp only [SV.cells, List.getElem?_cons_zero, Option.some.injEq] at hu; subst hu; exact .undef _
    · refine VP.cells (ih hv) hu ?_
      rw [hv.noAgg hun (fun l hl => hagg ⟨l, hl⟩)]
      rfl

theorem Hard.vp {A : Heap} {c : Cx} {w : World} (hr : Rep c A w) {Im : Nat → Prop} (hI : ∀ b, c.Im b → Im b) (hB : ∀ i o, A.obj i = some o → Im (c.β i)) {v v' : SV} (hh : Hard A v v') : ∀ {x : Value}, VR c A w v x → VP Im w v' x := by
  induction hh with
  | lit h => intro x hv; exact (h.vp hv).mono hI (fun _ _ => rfl)
  | iface t _ ih => intro x hv; obtain ⟨y, rfl, hy⟩ := hv.iface_inv; exact .iface _ _ _ (ih hy)
  | agg hl _ ih =>
    rename_i l l' _
    intro x hv
    obtain ⟨cs, rfl, h1, h2⟩ := hv.agg_inv
    refine .agg _ _ (h1.trans hl) fun i v x a b => ?_
    have hi : i < l.length := by
      rw [hl]
      rcases Nat.lt_or_ge i l'.length with h | h
      · exact h
      · rw [List.getElem?_eq_none h] at a; cases a
    exact ih i _ v (List.getElem?_eq_getElem hi) a (h2 i _ x (List.getElem?_eq_getElem hi) b)
  | tup hl _ ih =>
    rename_i l l' _
    intro x hv
    obtain ⟨cs, rfl, h1, h2⟩ := hv.tup_inv
    refine .tup _ _ (h1.trans hl) fun i v x a b => ?_
    have hi : i < l.length := by
      rw [hl]
      rcases Nat.lt_or_ge i l'.length with h | h
      · exact h
      · rw [List.getElem?_eq_none h] at a; cases a
    exact ih i _ v (List.getElem?_eq_getElem hi) a (h2 i _ x (List.getElem?_eq_getElem hi) b)
  | sl ho hle hhard ih =>
    rename_i i g sz off len cap elems sk get
    intro x hv
    obtain ⟨_, ad, cc, rfl, hlc, _, hor⟩ := hv.sl_inv ho rfl
    by_cases hz : len = 0
    · subst hz; exact .lst0 _ _ _ _
    · rcases hor with h0 | ⟨rfl, ty, n, hsh, hle2⟩
      · omega
      · cases hr.obj i _ ho with
        | vec _ _ _ _ C ty fz hw hle3 heq hty hc hf hcell =>
          have hel : ∀ j, j < len → ∃ v, elems[off + j]? = some v ∧ v.cells.length = sz ∧ (get j).cells.length = sz := fun j hj => by
            have hv : elems[off + j]? = some elems[off + j] := List.getElem?_eq_getElem (by omega)
            have h1 := hc _ (List.mem_of_getElem? hv)
            exact ⟨_, hv, h1, by rw [(hhard j _ hj hv).cells.1]; exact h1⟩
          refine .lst sz len get _ (off * sz) cc C ty fz (hB i _ ho) hw ?_ hlc (fun j hj => (hel j hj).choose_spec.2.2) fun j p u y hj hu hy => ?_
          · have : (off + len) * sz ≤ elems.length * sz := Nat.mul_le_mul_right _ hle
            rw [Nat.add_mul] at this
            omega
          · obtain ⟨v, hve, hvl, hgl⟩ := hel j hj
            have hle4 : (off + j + 1) * sz ≤ elems.length * sz := Nat.mul_le_mul_right _ (by omega)
            rw [Nat.succ_mul, Nat.add_mul] at hle4
            refine elem_vp (base := off * sz + j * sz) (hhard j v hj hve) (ih j v hj hve) (fun p' u' y' hu' hy' => hcell (off + j) p' v u' y' hve hu' (by rw [Nat.add_mul]; exact hy')) (by rw [hvl]; omega) hu hy
  | row hrow =>
    intro x hv
    cases hv with
    | pure hp => exact ((Lk.lst hrow).vp hp).mono hI (fun _ _ => rfl)
  | same hsame =>
    rename_i sz n get get'
    intro x hv
    cases hv with
    | pure hp =>
      cases hp with
      | lst0 => exact .lst0 _ _ _ _
      | lst _ _ _ b off cap C ty fz hb hw hn hcap hc h =>
        exact .lst sz n get' b off cap C ty fz (hI b hb) hw hn hcap (fun i hi => by rw [← hsame i hi]; exact hc i hi) fun i j v x hi hv hx => (h i j v x hi (by rw [hsame i hi]; exact hv) hx).mono hI fun _ _ => rfl
  | ref ho hi hhard ih =>
    rename_i i g idx sub sz elems sk v v'
    intro x hv
    have hx := hv.ref_inv ho rfl
    subst hx
    cases hr.obj i _ ho with
    | vec _ _ _ _ C ty fz hw hle heq hty hc hf hcell =>
      have hvl := hc _ (List.mem_of_getElem? hi)
      have hidx : idx < elems.length := by
        rcases Nat.lt_or_ge idx elems.length with h | h
        · exact h
        · rw [List.getElem?_eq_none h] at hi; cases hi
      have hle4 : (idx + 1) * sz ≤ elems.length * sz := Nat.mul_le_mul_right _ hidx
      rw [Nat.succ_mul] at hle4
      refine .ipt v' sub _ (idx * sz) C ty fz (hB i _ ho) hw (by rw [hhard.cells.1, hvl]; omega) fun p u y hu hy => ?_
      exact elem_vp (base := idx * sz) hhard ih (fun p' u' y' hu' hy' => hcell idx p' v u' y' hi hu' hy') (by rw [hvl]; omega) hu hy

/-- A call that comes to a value, whatever named memory there is. -/
def PCall (P : Program) (f : FuncId) (args : List SV) (v : SV) : Prop := (∀ a ∈ args, LitV a) ∧ ACall P f args ⟨0, []⟩ fun r h' => ∃ v', r = .ret v' ∧ Hard h' v' v

theorem pcall_of {P : Program} {f : FuncId} {args : List SV} {v : SV} (hargs : ∀ a ∈ args, LitV a) (hp : ACall P f args ⟨0, []⟩ fun r h' => ∃ v', r = .ret v' ∧ Hard h' v' v) : PCall P f args v := ⟨hargs, hp⟩

/-- Out of a run that begins with no named memory. -/
theorem PCall.run {P : Program} {f : FuncId} {args : List SV} {v : SV} (hpc : PCall P f args v) (h : Heap) : ACall P f args h fun r h' => r = .ret v ∧ h' = h := by
  obtain ⟨hargs, hp⟩ := hpc
  refine ⟨fun c w xs hr hs hv => ?_⟩
  have hr0 : Rep c ⟨0, []⟩ w := ⟨(fun i o ho => by cases ho), (fun i o ho => by cases ho), (fun i j o p ho => by cases ho), (fun i o ho => by cases ho), hr.im, hr.glob⟩
  refine (hp.calls c w xs hr0 hs fun i u x hu hx => .pure ((hargs u (List.mem_of_getElem? hu)).vp (hv i u x hu hx))).mono fun en w' hpost => ?_
  obtain ⟨c', h', r, ⟨v', rfl, hhard⟩, hr', hx', x, rfl, hvx⟩ := hpost
  have hfr : ∀ b, b < w.heap.size → w'.heap[b]? = w.heap[b]? := fun b hb => hx'.frame b hb fun i o ho => by cases ho
  have hnew : ∀ i o, h'.obj i = some o → w.heap.size ≤ c'.β i := fun i o ho => by
    rcases hx'.new i o ho with h | ⟨o', ho', _⟩
    · exact h
    · cases ho'
  let c2 : Cx := ⟨c.β, fun b => c'.Im b ∨ ∃ i o, h'.obj i = some o ∧ c'.β i = b⟩
  have him : ∀ b, c2.Im b → c.Im b ∨ w.heap.size ≤ b := by
    rintro b (hb | ⟨i, o, ho, rfl⟩)
    · rcases hx'.im' b hb with hb | hb | ⟨i, o, ho, _⟩
      · exact .inl hb
      · exact .inr hb
      · cases ho
    · exact .inr (hnew i o ho)
  have hext : Ext c h w c2 h w' := ⟨hx'.os, hx'.tape, hx'.output, hx'.size, fun b hb _ => hfr b hb, hx'.shape, fun b hb => .inl (hx'.im b hb), fun b hb => (him b hb).imp id .inl, Nat.le_refl _,
    fun i o _ ho => ⟨o, ho, Nat.le_refl _, rfl, fun _ => rfl⟩, fun i o ho => .inr ⟨o, ho, rfl⟩⟩
  refine ⟨c2, h, .ret v, ⟨rfl, rfl⟩, ⟨hr.lt, fun i o ho => (hr.obj i o ho).mono hr hext (hfr _ (hr.obj i o ho).lt), hr.inj, fun i o ho hb => ?_, fun b hb => ?_, hr.globx hext⟩, hext, x, rfl, .pure (hhard.vp hr' (fun b hb => .inl hb) (fun i o ho => .inr ⟨i, o, ho, rfl⟩) hvx)⟩
  · rcases him _ hb with h1 | h1
    · exact hr.apart i o ho h1
    · have := (hr.obj i o ho).lt
      have e : c2.β i = c.β i := rfl
      omega
  · rcases hb with hb | ⟨i, o, ho, rfl⟩
    · exact hr'.im b hb
    · exact (hr'.obj i o ho).lt

theorem PCall.call {P : Program} {f : FuncId} {args : List SV} {v : SV} (hp : PCall P f args v) {h : Heap} {R : AEnd → Heap → Prop} (hR : R (.ret v) h) : ACall P f args h R :=
  (hp.run h).mono fun r h' ⟨h1, h2⟩ => by subst h1; subst h2; exact hR

theorem leaf {h : Heap} {v v' : SV} (he : v = v') (hl : LitV v') : ∃ u, AEnd.ret v = .ret u ∧ Hard h u v' := ⟨v', by rw [he], .lit hl⟩
theorem lit2 {a b : SV} (ha : LitV a) (hb : LitV b) : LitV (.tup [a, b]) := .tup (by simp only [List.mem_cons, List.not_mem_nil, or_false]; rintro _ (rfl | rfl); exact ha; exact hb)
theorem lits1 {a : SV} (ha : LitV a) : ∀ x ∈ [a], LitV x := by simp only [List.mem_singleton]; rintro _ rfl; exact ha
theorem lits2 {a b : SV} (ha : LitV a) (hb : LitV b) : ∀ x ∈ [a, b], LitV x := by simp only [List.mem_cons, List.not_mem_nil, or_false]; rintro _ (rfl | rfl); exact ha; exact hb
theorem lits3 {a b c : SV} (ha : LitV a) (hb : LitV b) (hc : LitV c) : ∀ x ∈ [a, b, c], LitV x := by simp only [List.mem_cons, List.not_mem_nil, or_false]; rintro _ (rfl | rfl | rfl); exact ha; exact hb; exact hc
theorem lits4 {a b c d : SV} (ha : LitV a) (hb : LitV b) (hc : LitV c) (hd : LitV d) : ∀ x ∈ [a, b, c, d], LitV x := by simp only [List.mem_cons, List.not_mem_nil, or_false]; rintro _ (rfl | rfl | rfl | rfl); exact ha; exact hb; exact hc; exact hd
end Ab
