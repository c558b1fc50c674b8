/- Regions that draw their order: whatever the order, what the symbolic run says in one order. -/
import Derived.Test.YtoahfaepaojidabGreatDoorAbD

namespace Ab
set_option linter.unusedVariables false
set_option linter.unusedSimpArgs false
open Go

abbrev Ent := Nat × Bool × List Nat

def AOper.reads (o : AOper) : List Nat := o.op.uses ++ (match o.guard with | some (t, _) => [t] | none => [])
def AOp.isBad : AOp → Bool
  | .bad => true
  | _ => false

def preMask (ms : List Nat) (pre : List Nat) : Nat := pre.foldl (fun m k => m ||| (2 ^ k ||| ms.getD k 0)) 0
def mkMasks : List AOper → List Nat → List Nat
  | [], acc => acc
  | o :: r, acc => mkMasks r (acc ++ [preMask acc o.pre])
def maskOk (L : List AOper) (ms : List Nat) : Bool := (List.range L.length).all fun j => match L[j]? with
  | some o => Nat.beq (ms.getD j 0) (preMask ms o.pre) && o.pre.all (fun k => Nat.blt k j)
  | none => false

def pwAll {α : Type} (R : α → α → Bool) : List α → Bool
  | [] => true
  | a :: r => r.all (R a) && pwAll R r

def memN (t : Nat) (l : List Nat) : Bool := l.any fun u => Nat.beq u t
theorem VP.cells {Im : Nat → Prop} {w : World} {v : SV} {x : Value} (h : VP Im w v x) {j : Nat} {u : SV} {y : Value} (hu : v.cells[j]? = some u) (hy : x.cells[j]? = some y) : VP Im w u y := by
  have one : ∀ {v : SV} {x : Value}, v.cells = [v] → x.cells = #[x] → VP Im w v x → v.cells[j]? = some u → x.cells[j]? = some y → VP Im w u y := by
    intro v x h1 h2 h hu hy
    rw [h1] at hu; rw [h2] at hy
    cases j with
    | zero => simp at hu hy; subst hu; subst hy; exact h
    | succ j => simp at hu
  cases h with
  | undef => cases j with
    | zero => simp only [SV.cells, List.getElem?_cons_zero, Option.some.injEq] at hu; subst hu; exact .undef _
    | succ j => simp [SV.cells] at hu
  | agg l cs hl h => exact h j u y hu hy
  | bool b => exact one rfl rfl (.bool b) hu hy
  | int k n => exact one rfl rfl (.int k n) hu hy
  | str s => exact one rfl rfl (.str s) hu hy
  | nilp => exact one rfl rfl .nilp hu hy
  | glob g => exact one rfl rfl (.glob g) hu hy
  | nils => exact one rfl rfl .nils hu hy
  | nilf => exact one rfl rfl .nilf hu hy
  | nili => exact one rfl rfl .nili hu hy
  | nilm => exact one rfl rfl .nilm hu hy
  | iface t v x h => exact one rfl rfl (.iface t v x h) hu hy
  | tup l cs hl h => exact one rfl rfl (.tup l cs hl h) hu hy
  | func fn a b a' b' ha hb h h' => exact one rfl rfl (.func fn a b a' b' ha hb h h') hu hy
  | lst0 sz get a cap => exact one rfl rfl (.lst0 sz get a cap) hu hy
  | lst sz n get b off cap C ty fz hb hw hn hcap hc h => exact one rfl rfl (.lst sz n get b off cap C ty fz hb hw hn hcap hc h) hu hy
  | ipt v sub b o C ty fz hb hw hn h => exact one rfl rfl (.ipt v sub b o C ty fz hb hw hn h) hu hy

/-- A new variable that hangs on nothing. -/
def isC (o : AOper) : Bool := match o with
  | ⟨some _, .box _ sz (.const v), none, _⟩ => Nat.beq v.cells.length sz && v.known
  | _ => false
def rOk (L : List AOper) (ms : List Nat) (a b : Ent) : Bool := match L[a.1]?, L[b.1]? with
  | some oa, some ob =>
    let an := Nat.testBit (ms.getD b.1 0) a.1
    !Nat.beq a.1 b.1 &&
    (match oa.dst with
      | some t => (match ob.dst with | some u => !Nat.beq t u | none => true) && (!memN t ob.reads || an)
      | none => true) &&
    (match ob.dst with
      | some t => !memN t oa.reads || (b.2.1 && an)
      | none => true) &&
    (!a.2.1 || (an || isC ob)) &&
    (a.2.1 || (!b.2.1 || (an || (Nat.beq oa.op.cls 0 || memN a.1 b.2.2))))
  | _, _ => false
def eOk (L : List AOper) (a : Ent) : Bool := match L[a.1]? with
  | some o => !o.op.isBad && (Nat.ble o.op.cls 1 || a.2.1) && (a.2.1 || (a.2.2.isEmpty && (match o.dst with | some t => !memN t o.reads | none => true))) &&
    a.2.2.all (fun i => match L[i]? with | some oi => Nat.ble oi.op.cls 1 | none => false)
  | none => false
/-- The order told is one of the region's, and whatever may change places with what acts is done again behind it. -/
def ordOk (L : List AOper) (ord : List Ent) : Bool :=
  maskOk L (mkMasks L []) && pwAll (rOk L (mkMasks L [])) ord && ord.all (eOk L) && (List.range L.length).all (fun i => ord.any fun a => Nat.beq a.1 i)

theorem preMask_bit (ms : List Nat) (i : Nat) : ∀ (pre : List Nat) (m : Nat), Nat.testBit (pre.foldl (fun m k => m ||| (2 ^ k ||| ms.getD k 0)) m) i = true → Nat.testBit m i = true ∨ ∃ k ∈ pre, i = k ∨ Nat.testBit (ms.getD k 0) i = true
  | [], m, h => .inl h
  | k :: r, m, h => by
    simp only [List.foldl_cons] at h
    rcases preMask_bit ms i r _ h with h1 | ⟨k', hk', h1⟩
    · rw [Nat.testBit_or, Nat.testBit_or, Bool.or_eq_true, Bool.or_eq_true, Nat.testBit_two_pow] at h1
      rcases h1 with h1 | h1 | h1
      · exact .inl h1
      · exact .inr ⟨k, by simp, .inl (by simpa [eq_comm] using h1)⟩
      · exact .inr ⟨k, by simp, .inr h1⟩
    · exact .inr ⟨k', by simp [hk'], h1⟩

theorem pwAll_pairwise {α : Type} {R : α → α → Bool} : ∀ {l : List α}, pwAll R l = true → l.Pairwise fun a b => R a b = true
  | [], _ => .nil
  | a :: r, h => by
    simp only [pwAll, Bool.and_eq_true] at h
    exact .cons (fun b hb => List.all_eq_true.1 h.1 b hb) (pwAll_pairwise h.2)

theorem memN_iff {t : Nat} {l : List Nat} : memN t l = true ↔ t ∈ l := by
  unfold memN
  rw [List.any_eq_true]
  constructor
  · rintro ⟨u, hu, h⟩
    rw [← Nat.eq_of_beq_eq_true h]; exact hu
  · intro h; exact ⟨t, h, by simp⟩

/-! Guards, told by the slots. -/
def EqE (e e' : Env) : Prop := ∀ t, Env.get e t = Env.get e' t
def wantA (e : Env) : Option (Nat × Bool) → Option Bool
  | none => some true
  | some (t, want) => match Env.get e t with
    | .bool x => some (x == want)
    | .tup _ => some false
    | _ => none
theorem guardK_inv {e : Env} {g : Option (Nat × Bool)} {run skip : Env → Prop} (hp : guardK e g run skip) :
    (wantA e g = some true ∧ ∃ e1, EqE e e1 ∧ run e1) ∨ (wantA e g = some false ∧ ∃ e1, EqE e e1 ∧ skip e1) := by
  cases g with
  | none => exact .inl ⟨rfl, e, fun _ => rfl, hp⟩
  | some gw =>
    obtain ⟨t, want⟩ := gw
    simp only [guardK, getK_eq] at hp
    unfold wantA
    have hput : ∀ x, Env.get e t = .bool x → EqE e (Env.put e t (.bool x)) := fun x hx u => by
      rw [get_put]
      by_cases hu : u = t
      · subst hu; rw [if_pos rfl, hx]
      · rw [if_neg hu]
    dsimp only
    split at hp
    · rename_i x hx
      rw [hx]
      cases x <;> cases want <;> simp only [putK_eq] at hp
      · exact .inl ⟨rfl, _, hput _ hx, hp⟩
      · exact .inr ⟨rfl, _, hput _ hx, hp⟩
      · exact .inr ⟨rfl, _, hput _ hx, hp⟩
      · exact .inl ⟨rfl, _, hput _ hx, hp⟩
    · rename_i l hx
      rw [hx]
      exact .inr ⟨rfl, e, fun _ => rfl, hp⟩
    · exact hp.elim

def Env.only (ts : List Nat) (e : Env) : Env := ts.map fun t => (t, Env.get e t)
theorem get_only (e : Env) : ∀ (ts : List Nat) (u : Nat), Env.get (Env.only ts e) u = if u ∈ ts then Env.get e u else .undef
  | [], u => by simp [Env.only, Env.get]
  | t :: ts, u => by
    unfold Env.only
    rw [List.map_cons]
    conv => lhs; unfold Env.get
    rcases beq_cases t u with ⟨h, h'⟩ | ⟨h, h'⟩ <;> rw [h]
    · subst h'; simp
    · simp only [cond_false]
      have := get_only e ts u
      unfold Env.only at this
      rw [this]
      simp [Ne.symm h']

theorem cOper_ok {P : Program} {n : Nat} {ops : Array Oper} {o : Oper} (hb : (cOper P n ops true o).op.isBad = false) :
    (cOper P n ops true o).dst = o.dst ∧ (cOper P n ops true o).op = cOp P o.op ∧ (∀ d, o.dst = some d → d < n) ∧ (cOper P n ops true o).pre = o.after.toList.filterMap (fun e => bif bindsAny e then some e.on else none) ∧
    (match o.guard with | none => (cOper P n ops true o).guard = none | some (j, want) => ∃ t, (ops[j]?).bind (·.dst) = some t ∧ t < n ∧ (cOper P n ops true o).guard = some (t, want)) := by
  unfold cOper at hb ⊢
  dsimp only at hb ⊢
  cases hd : dstOk n o
  · rw [hd] at hb; simp [AOp.isBad] at hb
  · have hlt : ∀ d, o.dst = some d → d < n := fun d hdd => by
      unfold dstOk at hd
      rw [hdd] at hd
      exact Nat.lt_of_succ_le (by simpa [Nat.blt] using hd)
    rw [hd] at hb
    simp only [cond_true] at hb ⊢
    cases hg : o.guard with
    | none => refine ⟨?_, ?_, hlt, ?_, ?_⟩ <;> first | rfl | trivial
    | some gw =>
      obtain ⟨j, want⟩ := gw
      rw [hg] at hb
      dsimp only at hb ⊢
      cases ht : (ops[j]?).bind (·.dst) with
      | none => rw [ht] at hb; simp [AOp.isBad] at hb
      | some t =>
        rw [ht] at hb
        dsimp only at hb ⊢
        cases hbb : Nat.blt t n
        · rw [hbb] at hb; simp [AOp.isBad] at hb
        · simp only [cond_true]
          refine ⟨?_, ?_, hlt, ?_, t, ?_, Nat.lt_of_succ_le (by simpa [Nat.blt] using hbb), ?_⟩ <;> first | rfl | trivial

theorem isC_inv {o : AOper} (h : isC o = true) : ∃ t ty sz v pre, o = ⟨some t, .box ty sz (.const v), none, pre⟩ ∧ v.cells.length = sz ∧ v ≠ .undef := by
  unfold isC at h
  split at h
  · rename_i t ty sz v pre
    simp only [Bool.and_eq_true] at h
    exact ⟨t, ty, sz, v, pre, rfl, Nat.eq_of_beq_eq_true h.1, fun e => by rw [e] at h; simp [SV.known] at h⟩
  · cases h

theorem ext_alloc {c : Cx} {h : Heap} {w : World} (cb : Obj) : Ext c h w c h (w.alloc cb) :=
  ⟨rfl, rfl, rfl, by rw [heap_size]; omega, fun b hb _ => heap_push w cb b hb, fun b hb => by simp only [World.shape?, heap_push w cb b hb], fun _ h => h, fun _ h => .inl h, Nat.le_refl _,
    fun _ o' _ h => ⟨o', h, Nat.le_refl _, rfl, fun _ => rfl⟩, fun _ o' h => .inr ⟨o', h, rfl⟩⟩
theorem rep_same {c : Cx} {h : Heap} {w w' : World} (hr : Rep c h w) (hx : Ext c h w c h w') (hb : ∀ i o, h.obj i = some o → w'.heap[c.β i]? = w.heap[c.β i]?) : Rep c h w' :=
  ⟨hr.lt, fun i o ho => (hr.obj i o ho).mono hr hx (hb i o ho), hr.inj, hr.apart, fun b h => Nat.lt_of_lt_of_le (hr.im b h) hx.size, hr.globx hx⟩

/-- What such an operation does. -/
theorem cbox_run {P : Program} {w : World} {a : Act} {o : Oper} {ty : TypeId} {sz : Nat} {v : SV} (hop : cOp P o.op = .box ty sz (.const v)) :
    ∃ x, (execOp a.eval o).run P w = .ok (.value (.pointer (some ⟨w.heap.size, 0, none⟩))) (w.alloc (.cells x.cells ty)) ∧ ∀ Im w', VP Im w' v x := by
  cases ho : o.op with
  | alloc t =>
    rw [ho] at hop
    simp only [cOp] at hop
    split at hop
    · rename_i i hi
      split at hop
      · rename_i z hz
        cases hR : rowT P t <;> rw [hR] at hop <;> cases hop
        exact ⟨z, by simp [execOp, ho, Instr.alloc, newVar, newRow, zero_run hi hz], fun Im w' => ofVal_vp 4 z⟩
      · cases hop
    · cases hop
  | box t x =>
    rw [ho] at hop
    simp only [cOp] at hop
    split at hop
    · rename_i i hi
      cases hR : rowT P t <;> rw [hR] at hop
      rotate_left
      · cases hop
      injection hop with h0 h1 h2
      subst h0
      refine ⟨a.eval x, by simp [execOp, ho, Instr.box, newVar, newRow], fun Im w' => ?_⟩
      cases x with
      | tmp t => cases h2
      | const y => cases h2; exact ofVal_vp 4 y
      | global g => cases h2; exact .glob g
      | func f =>
        cases h2
        exact .func _ _ _ _ _ rfl rfl (fun i v x h => by simp at h) fun i v x h => by simp at h
    · cases hop
  | _ =>
    exfalso
    rw [ho] at hop
    simp only [cOp] at hop
    repeat' split at hop
    all_goals first | (cases hop; done) | skip
    all_goals try simp only [cond_eq_ite] at hop
    all_goals repeat' split at hop
    all_goals first | exact AOp.noConfusion hop | (rename_i heq _ _; cases heq; done) | (simp_all; done)

/-- One operation, the slots that it reads being known, and no other. -/
theorem exec_op {P : Program} {Γ : CallR} (hΓ : Γ.Ok P) {n : Nat} {ops : Array Oper} {Q : Exit → Act → World → Prop} {i : Nat} {o : Oper} (hi : ops[i]? = some o) (hb : (cOper P n ops true o).op.isBad = false) {c : Cx} {h : Heap} {w : World} {e : Env} {a : Act} {K : Act → World → Prop}
    (hr : Rep c h w) (hT : ∀ t ∈ (cOper P n ops true o).reads, VR c h w (Env.get e t) (a.tmps.getD t undef)) (hn : a.tmps.size = n) {b : Bool} (hw : wantA e (cOper P n ops true o).guard = some b) {k kp : SV → Heap → Prop}
    (hp : b = true → aop P Γ (cOper P n ops true o).op e h k kp)
    (hk : b = true → ∀ v x h' c' w', k v h' → Rep c' h' w' → Ext c h w c' h' w' → VR c' h' w' v x → K (a.put o.dst x) w')
    (hkp : b = true → ∀ v x h' c' w', kp v h' → Rep c' h' w' → Ext c h w c' h' w' → VR c' h' w' v x → Q (.panic [{ v := x, recovered := false }]) a w')
    (hskip : b = false → K (a.put o.dst undef) w) : wpOp P ops Q i K a w := by
  obtain ⟨hdst, hop, hlt, hpre, hg⟩ := cOper_ok hb
  have hwant : Region.wanted o (yielded ops a.tmps) = b := by
    cases hgo : o.guard with
    | none =>
      rw [hgo] at hg
      dsimp only at hg
      rw [hg] at hw
      simp only [wantA, Option.some.injEq] at hw
      simp [Region.wanted, hgo, ← hw]
    | some gw =>
      obtain ⟨j, want⟩ := gw
      rw [hgo] at hg
      obtain ⟨t, ht, htn, hg⟩ := hg
      have hv := hT t (by simp [AOper.reads, hg])
      rw [hg] at hw
      have hget : a.tmps[t]? = some (a.tmps.getD t undef) := by
        rw [Array.getD_eq_getD_getElem?]
        have : t < a.tmps.size := by rw [hn]; exact htn
        simp [this]
      unfold wantA at hw
      dsimp only at hw
      split at hw
      · rename_i x hx
        rw [hx] at hv
        simp only [Option.some.injEq] at hw
        have hy : yielded ops a.tmps j = some x := by
          unfold yielded
          rw [ht, Option.bind_some, hget, hv.bool_inv]
        simp [Region.wanted, hgo, hy, ← hw]
      · rename_i l hx
        rw [hx] at hv
        simp only [Option.some.injEq] at hw
        obtain ⟨cs, hcs, _⟩ := hv.tup_inv
        have hy : yielded ops a.tmps j = none := by
          unfold yielded
          rw [ht, Option.bind_some, hget, hcs]
        simp [Region.wanted, hgo, hy, ← hw]
      · cases hw
  have her : ER c h w (Env.only (cOper P n ops true o).reads e) a.tmps := fun t => by
    rw [get_only]
    split
    · exact hT t ‹_›
    · exact .undef
  unfold wpOp
  rw [hi]
  dsimp only
  cases b with
  | true =>
    rw [if_pos hwant]
    have hp' := hp rfl
    rw [aop_congr (e' := Env.only (cOper P n ops true o).reads e) (fun t ht => by rw [get_only, if_pos (by simp [AOper.reads, ht])]), hop] at hp'
    exact .inl (op_wp hΓ hr her hp' (hk rfl) (hkp rfl))
  | false =>
    rw [if_neg (by rw [hwant]; decide)]
    exact hskip rfl
end Ab
