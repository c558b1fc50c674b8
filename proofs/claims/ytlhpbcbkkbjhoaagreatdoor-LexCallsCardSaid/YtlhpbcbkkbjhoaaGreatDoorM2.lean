/- Parts of the proof of PLexCalls, one behind the other. -/
import Derived.Test.YtlhpbcbkkbjhoaaGreatDoorM1
import Derived.Laws.Cells
import Derived.Laws.CopyRow
import Derived.Laws.World
import Derived.WalkKit
import Derived.Laws.StructEq
import Derived.Laws.Strings
import Derived.Laws.Cover1
namespace Ab
set_option linter.unusedVariables false
set_option linter.unusedSimpArgs false
open Go

theorem beq_cases (s t : Nat) : (Nat.beq s t = true ∧ s = t) ∨ (Nat.beq s t = false ∧ s ≠ t) := by
  cases h : Nat.beq s t
  · exact .inr ⟨rfl, fun e => by subst e; simp at h⟩
  · exact .inl ⟨rfl, Nat.eq_of_beq_eq_true h⟩

theorem getK_eq {α : Sort _} (t : Nat) (k : SV → α) : ∀ e : Env, Env.getK e t k = k (Env.get e t)
  | [] => rfl
  | (s, v) :: r => by
    unfold Env.getK Env.get
    rcases beq_cases s t with ⟨h, _⟩ | ⟨h, _⟩ <;> rw [h]
    · rfl
    · exact getK_eq t k r
theorem putK_eq {α : Sort _} (t : Nat) (v : SV) : ∀ (e : Env) (k : Env → α), Env.putK e t v k = k (Env.put e t v)
  | [], k => rfl
  | (s, w) :: r, k => by
    unfold Env.putK Env.put
    rcases beq_cases s t with ⟨h, _⟩ | ⟨h, _⟩ <;> rw [h]
    · rfl
    · exact putK_eq t v r _
theorem dropK_eq {α : Sort _} (t : Nat) : ∀ (e : Env) (k : Env → α), Env.dropK e t k = k (Env.drop e t)
  | [], k => rfl
  | (s, w) :: r, k => by
    unfold Env.dropK Env.drop
    rcases beq_cases s t with ⟨h, _⟩ | ⟨h, _⟩ <;> rw [h]
    · exact dropK_eq t r _
    · exact dropK_eq t r _
def Env.drops : List Nat → Env → Env
  | [], e => e
  | t :: ts, e => Env.drops ts (Env.drop e t)
theorem dropsK_eq {α : Sort _} : ∀ (ts : List Nat) (e : Env) (k : Env → α), Env.dropsK ts e k = k (Env.drops ts e)
  | [], e, k => rfl
  | t :: ts, e, k => by unfold Env.dropsK Env.drops; rw [dropK_eq]; exact dropsK_eq ts _ k
theorem get_put (e : Env) (t : Nat) (v : SV) (u : Nat) : Env.get (Env.put e t v) u = if u = t then v else Env.get e u := by
  induction e with
  | nil =>
    unfold Env.put Env.get Env.get
    rcases beq_cases t u with ⟨h, h'⟩ | ⟨h, h'⟩ <;> rw [h]
    · rw [if_pos h'.symm]; rfl
    · rw [if_neg (fun e => h' e.symm)]; rfl
  | cons x r ih =>
    obtain ⟨s, w⟩ := x
    unfold Env.put
    rcases beq_cases s t with ⟨h, h'⟩ | ⟨h, h'⟩ <;> rw [h]
    · subst h'
      simp only [cond_true]
      unfold Env.get
      rcases beq_cases s u with ⟨h2, h2'⟩ | ⟨h2, h2'⟩ <;> rw [h2]
      · rw [if_pos h2'.symm]; rfl
      · rw [if_neg (fun e => h2' e.symm)]; rfl
    · simp only [cond_false]
      unfold Env.get
      rcases beq_cases s u with ⟨h2, h2'⟩ | ⟨h2, h2'⟩ <;> rw [h2]
      · subst h2'; rw [if_neg h']; rfl
      · exact ih
theorem get_drop (e : Env) (t u : Nat) : Env.get (Env.drop e t) u = .undef ∨ Env.get (Env.drop e t) u = Env.get e u := by
  induction e with
  | nil => exact .inl rfl
  | cons x r ih =>
    obtain ⟨s, w⟩ := x
    unfold Env.drop
    rcases beq_cases s t with ⟨h, h'⟩ | ⟨h, h'⟩ <;> rw [h]
    · subst h'
      simp only [cond_true]
      have key : u = s → Env.get (Env.drop r s) u = .undef := by
        rintro rfl
        clear ih
        induction r with
        | nil => rfl
        | cons y r ih =>
          obtain ⟨s', w'⟩ := y
          unfold Env.drop
          rcases beq_cases s' u with ⟨h, h'⟩ | ⟨h, h'⟩ <;> rw [h]
          · exact ih
          · simp only [cond_false]; unfold Env.get; rw [h]; exact ih
      by_cases hu : u = s
      · exact .inl (key hu)
      · have : Env.get ((s, w) :: r) u = Env.get r u := by
          rcases beq_cases s u with ⟨h2, h2'⟩ | ⟨h2, h2'⟩
          · exact absurd h2'.symm hu
          · conv => lhs; unfold Env.get
            rw [h2]; rfl
        rw [this]; exact ih
    · simp only [cond_false]
      rcases beq_cases s u with ⟨h2, h2'⟩ | ⟨h2, h2'⟩
      · right; unfold Env.get; rw [h2]; rfl
      · have e1 : Env.get ((s, w) :: Env.drop r t) u = Env.get (Env.drop r t) u := by conv => lhs; unfold Env.get
                                                                                      rw [h2]; rfl
        have e2 : Env.get ((s, w) :: r) u = Env.get r u := by conv => lhs; unfold Env.get
                                                              rw [h2]; rfl
        rw [e1, e2]; exact ih
theorem get_drops (ts : List Nat) : ∀ (e : Env) (u : Nat), Env.get (Env.drops ts e) u = .undef ∨ Env.get (Env.drops ts e) u = Env.get e u := by
  induction ts with
  | nil => exact fun e u => .inr rfl
  | cons t ts ih =>
    intro e u
    unfold Env.drops
    rcases ih (Env.drop e t) u with h | h
    · exact .inl h
    · rw [h]; exact get_drop e t u

theorem lookO_eq {α : Sort _} (i : Nat) (k : AObj → α) (d : α) : ∀ l : List (Nat × AObj), lookO l i k d = match objL l i with | some o => k o | none => d
  | [] => rfl
  | (s, o) :: r => by
    unfold lookO objL
    rcases beq_cases s i with ⟨h, h'⟩ | ⟨h, h'⟩ <;> rw [h]
    · rw [if_pos h']
    · rw [if_neg h']; exact lookO_eq i k d r
def putO : List (Nat × AObj) → Nat → AObj → List (Nat × AObj)
  | [], _, _ => []
  | (s, o) :: r, i, o' => if s = i then (s, o') :: r else (s, o) :: putO r i o'
theorem setO_eq {α : Sort _} (i : Nat) (o' : AObj) : ∀ (l : List (Nat × AObj)) (k : List (Nat × AObj) → α), setO l i o' k = k (putO l i o')
  | [], k => rfl
  | (s, o) :: r, k => by
    unfold setO putO
    rcases beq_cases s i with ⟨h, h'⟩ | ⟨h, h'⟩ <;> rw [h]
    · rw [if_pos h']
    · rw [if_neg h']; exact setO_eq i o' r _
theorem objL_put (l : List (Nat × AObj)) (i : Nat) (o' : AObj) (j : Nat) : objL (putO l i o') j = if j = i then (objL l i).map (fun _ => o') else objL l j := by
  induction l with
  | nil => unfold putO objL; split <;> rfl
  | cons x r ih =>
    obtain ⟨s, o⟩ := x
    unfold putO
    by_cases h : s = i
    · subst h
      rw [if_pos rfl]
      unfold objL
      by_cases h2 : s = j
      · subst h2; simp
      · rw [if_neg h2, if_neg (fun e => h2 e.symm), if_neg h2]
    · rw [if_neg h]
      unfold objL
      by_cases h2 : s = j
      · subst h2; rw [if_pos rfl, if_neg h, if_pos rfl]
      · rw [if_neg h2, if_neg h, if_neg h2]; exact ih
theorem asr_iff {b : Bool} {p : Prop} : asr b p ↔ b = true ∧ p := by
  cases b
  · exact ⟨fun h => h.elim, fun h => by cases h.1⟩
  · exact ⟨fun h => ⟨rfl, h⟩, fun h => h.2⟩
theorem brT {b : Bool} {p : Prop} (h : b = true) (hp : p) : @Bool.rec (fun _ => Prop) False p b := asr_iff.2 ⟨h, hp⟩
theorem br {b : Bool} {p q : Prop} (h1 : b = true → p) (h0 : b = false → q) : @Bool.rec (fun _ => Prop) q p b := by
  cases b
  · exact h0 rfl
  · exact h1 rfl
theorem brE {b : Bool} {p q : Prop} (h : @Bool.rec (fun _ => Prop) q p b) : (b = true ∧ p) ∨ (b = false ∧ q) := by
  cases b
  · exact .inr ⟨rfl, h⟩
  · exact .inl ⟨rfl, h⟩

theorem cellsK_iff {v : SV} {k : List SV → Prop} : v.cellsK k ↔ v ≠ .undef ∧ k v.cells := by
  cases v <;> simp [SV.cellsK, SV.cells]

def AOpd.ev (e : Env) : AOpd → SV
  | .tmp t => Env.get e t
  | .const v => v
theorem evK_eq {α : Sort _} (e : Env) (x : AOpd) (k : SV → α) : x.evK e k = k (x.ev e) := by
  cases x
  · exact getK_eq _ _ _
  · rfl
theorem evsK_eq {α : Sort _} (e : Env) : ∀ (l : List AOpd) (k : List SV → α), evsK e l k = k (l.map (AOpd.ev e))
  | [], k => rfl
  | x :: r, k => by
    unfold evsK
    rw [evK_eq, evsK_eq e r]
    rfl

/-- The slots read so. -/
def ER (c : Cx) (h : Heap) (w : World) (e : Env) (tmps : Array Value) : Prop := ∀ t, VR c h w (Env.get e t) (tmps.getD t undef)

theorem ofVal_vp {Im : Nat → Prop} {w : World} : ∀ (n : Nat) (v : Value), VP Im w (ofVal n v) v
  | 0, v => .undef v
  | n+1, v => by
    unfold ofVal
    split
    · exact .bool _
    · exact .int _ _
    · rename_i s
      have : (⟨s.data.toList.toArray⟩ : ByteArray) = s := by cases s; rfl
      conv => rhs; rw [← this]
      exact .str _
    · exact .nilp
    · exact .nils
    · exact .nilf
    · exact .nili
    · exact .nilm
    · exact .iface _ _ _ (ofVal_vp n _)
    · refine .agg _ _ (by simp) fun i v x hv hx => ?_
      simp only [List.getElem?_map, Option.map_eq_some_iff, Array.getElem?_toList] at hv
      obtain ⟨y, hy, rfl⟩ := hv
      rw [hx] at hy; cases hy
      exact ofVal_vp n _
    · refine .tup _ _ (by simp) fun i v x hv hx => ?_
      simp only [List.getElem?_map, Option.map_eq_some_iff, Array.getElem?_toList] at hv
      obtain ⟨y, hy, rfl⟩ := hv
      rw [hx] at hy; cases hy
      exact ofVal_vp n _
    · exact .undef _

section
variable {P : Program} {Γ : CallR} {c : Cx} {h : Heap} {w : World} {e : Env} {a : Act}

theorem ER.ev (he : ER c h w e a.tmps) (x : Operand) : VR c h w ((cOpd x).ev e) (a.eval x) := by
  cases x with
  | tmp t => exact he t
  | const v => exact .pure (ofVal_vp 4 v)
  | global g => exact .pure (.glob g)
  | func f => exact .pure (.func _ _ _ _ _ rfl rfl (fun i v x hv => by simp at hv) (fun i v x hv => by simp at hv))

def putE (e : Env) (d : Option Nat) (v : SV) : Env := match d with
  | some t => Env.put e t v
  | none => e
theorem ER.put (he : ER c h w e a.tmps) {d : Option Nat} {v : SV} {x : Value} (hd : ∀ t, d = some t → t < a.tmps.size) (hv : VR c h w v x) :
    ER c h w (putE e d v) (a.put d x).tmps := by
  cases d with
  | none => exact he
  | some t =>
    intro u
    have ht := hd t rfl
    simp only [Act.put, putE, get_put]
    by_cases hu : u = t
    · subst hu
      rw [if_pos rfl]
      simpa [Array.getD_eq_getD_getElem?, ht] using hv
    · rw [if_neg hu]
      have := he u
      simpa [Array.getD_eq_getD_getElem?, Array.getElem?_setIfInBounds, Ne.symm hu] using this
theorem ER.mono (hr : Rep c h w) {c' : Cx} {h' : Heap} {w' : World} {tmps : Array Value} (he : ER c h w e tmps) (hx : Ext c h w c' h' w') : ER c' h' w' e tmps := fun t => (he t).mono hr hx
theorem ER.drops {tmps : Array Value} (he : ER c h w e tmps) (ts : List Nat) : ER c h w (Env.drops ts e) tmps := fun t => by
  rcases get_drops ts e t with h | h
  · rw [h]; exact .undef
  · rw [h]; exact he t

theorem putD_eq (e : Env) (d : Option Nat) (v : SV) (k : Env → Prop) : putD e d v k = k (putE e d v) := by
  cases d
  · rfl
  · exact putK_eq _ _ _ _

theorem add_eq (b o n : Nat) : (⟨b, o, none⟩ : Addr).add n = ⟨b, o + n, none⟩ := by unfold Addr.add; split <;> simp_all

theorem getL_eq {α : Type _} : ∀ (l : List α) (i : Nat), getL l i = l[i]?
  | [], i => by simp [getL]
  | x :: r, 0 => by simp [getL]
  | x :: r, i+1 => by simpa [getL] using getL_eq r i
theorem dropN_iff : ∀ {l : List SV} {n : Nat} {k : List SV → Prop}, dropN l n k ↔ n ≤ l.length ∧ k (l.drop n)
  | l, 0, k => by simp [dropN]
  | [], n+1, k => by simp [dropN]
  | x :: r, n+1, k => by simp [dropN, dropN_iff]
theorem takeN_iff : ∀ {l : List SV} {n : Nat} {k : List SV → Prop}, takeN l n k ↔ n ≤ l.length ∧ k (l.take n)
  | l, 0, k => by cases l <;> simp [takeN]
  | [], n+1, k => by simp [takeN]
  | x :: r, n+1, k => by simp [takeN, takeN_iff]


/-- What a pointer that can be read points into. -/
theorem readP_inv (hr : Rep c h w) {p : SV} {x : Value} (hx : VR c h w p x) {k : List SV → Nat → Prop} (hp : readP h p k) :
    ∃ cs sub b base C ty fz, k cs sub ∧ x = .pointer (some ⟨b, base + sub, none⟩) ∧ w.heap[b]? = some (.cells C ty fz) ∧ base + cs.length ≤ C.size ∧
      ∀ (j : Nat) (v : SV) (y : Value), cs[j]? = some v → C[base + j]? = some y → VR c h w v y := by
  unfold readP at hp
  split at hp
  · rename_i v sub
    obtain ⟨b, o, C, ty, fz, rfl, hb, hw, hn, hc⟩ := hx.ipt_inv
    obtain ⟨_, hk⟩ := cellsK_iff.1 hp
    exact ⟨_, _, b, o, C, ty, fz, hk, rfl, hw, hn, fun j v y hv hy => .pure (hc j v y hv hy)⟩
  · rename_i g
    split at hp
    · rename_i v hv
      obtain ⟨_, hk⟩ := cellsK_iff.1 hp
      obtain ⟨_, C, ty, fz, hw, hn, hc⟩ := hr.glob.1 g v hv
      exact ⟨_, _, g, 0, C, ty, fz, hk, hx.glob_inv, hw, by omega, fun j u y hu hy => .pure (hc j u y hu (by rw [Nat.zero_add] at hy; exact hy))⟩
    · exact hp.elim
  · rename_i i g idx sub
    obtain ⟨n, l⟩ := h
    simp only [lookO_eq] at hp
    split at hp
    · rename_i o ho
      split at hp
      · rename_i g' sz elems slack
        replace hp := asr_iff.1 hp
        obtain ⟨hg, hp⟩ := hp
        have hg' := Nat.eq_of_beq_eq_true hg
        clear hg
        subst hg'
        split at hp
        · rename_i v hv
          obtain ⟨hu, hk⟩ := cellsK_iff.1 hp
          have hxx := hx.ref_inv (o := .vec g' sz elems slack) ho rfl
          have hor := hr.obj i _ ho
          cases hor with
          | vec g sz elems slack C ty fz hw hle heq hty hc hf hcell =>
            have hgl : elems[idx]? = some v := by
              rw [← getL_eq]; exact hv
            have hlt : idx < elems.length := by
              rcases Nat.lt_or_ge idx elems.length with h | h
              · exact h
              · rw [List.getElem?_eq_none h] at hgl; cases hgl
            have hlen : v.cells.length = sz := hc v (List.mem_of_getElem? hgl)
            refine ⟨_, _, _, idx * sz, C, ty, fz, hk, hxx, hw, ?_, fun j u y hu hy => hcell idx j v u y hgl hu hy⟩
            have : (idx + 1) * sz ≤ elems.length * sz := Nat.mul_le_mul_right _ hlt
            rw [hlen]
            have e1 : (idx + 1) * sz = idx * sz + sz := by rw [Nat.succ_mul]
            omega
        · exact hp.elim
      · exact hp.elim
    · exact hp.elim
  · exact hp.elim

theorem isAgg_run {t : TypeId} {b : Bool} (hb : isAggT P t = some b) : (isAgg t).run P w = .ok b w := by
  unfold isAggT at hb
  unfold isAgg
  split at hb <;> rename_i hu <;> cases hb <;> simp [run_underlying hu]
theorem sizeOf_run {t : TypeId} {i : TypeInfo} (hi : P.info? t = some i) : (Go.sizeOf t).run P w = .ok i.size w := by simp [Go.sizeOf, typeInfo, hi]
theorem zero_run {t : TypeId} {i : TypeInfo} {z : Value} (hi : P.info? t = some i) (hz : i.zero = some z) : (zeroValue t).run P w = .ok z w := by simp [zeroValue, typeInfo, hi, hz]

/-- The operation reads so, and turns nothing. -/
def Sees (P : Program) (c : Cx) (h : Heap) (w : World) (a : Act) (o : Oper) (k : SV → Heap → Prop) : Prop :=
  ∃ v x, k v h ∧ (execOp a.eval o).run P w = .ok (.value x) w ∧ VR c h w v x

theorem sees_load (hr : Rep c h w) (he : ER c h w e a.tmps) {o : Oper} {t : TypeId} {x : Operand} (ho : o.op = .load t x) {k kp : SV → Heap → Prop} (hp : aop P Γ (cOp P o.op) e h k kp) : Sees P c h w a o k := by
  simp only [ho, cOp] at hp
  have hrun : ∀ b off y, a.eval x = .pointer (some ⟨b, off, none⟩) → (loadVar t ⟨b, off, none⟩).run P w = .ok y w → (execOp a.eval o).run P w = .ok (.value y) w := by
    intro b off y hx hy
    simp [execOp, ho, hx, Instr.loadAt, Instr.sureAddr, hy]
  split at hp
  · rename_i i hag hi
    simp only [aop, evK_eq] at hp
    obtain ⟨cs, sub, b, base, C, ty, fz, hk, hx, hw, hle, hc⟩ := readP_inv hr (he.ev x) hp
    obtain ⟨h1, hk⟩ := dropN_iff.1 hk
    obtain ⟨h2, hk⟩ := takeN_iff.1 hk
    simp only [List.length_drop] at h2
    let l := (C.toList.drop (base + sub)).take i.size
    have hl : l.length = i.size := by simp [l]; omega
    refine ⟨_, .agg l.toArray, hk, hrun _ _ _ hx ?_, .agg _ _ (by simp [l]; omega) fun j v y hv hy => ?_⟩
    · have := run_loadCells_list (P := P) w ⟨b, base + sub, none⟩ l (fun j v hv => by
        rw [add_eq]
        simp only [World.cell?, hw, Option.isSome_none, if_false]
        simp only [l, List.getElem?_take, List.getElem?_drop] at hv
        split at hv
        · simpa using hv
        · cases hv)
      rw [hl] at this
      simp [loadVar, isAgg_run hag, sizeOf_run hi, this]
    · simp only [List.getElem?_take, List.getElem?_drop] at hv
      simp only [l, List.getElem?_toArray, List.getElem?_take, List.getElem?_drop] at hy
      split at hv
      · rw [if_pos ‹_›] at hy
        exact hc (sub + j) v y hv (by simpa [Nat.add_assoc] using hy)
      · cases hv
  · rename_i hag
    simp only [aop, evK_eq] at hp
    obtain ⟨cs, sub, b, base, C, ty, fz, hk, hx, hw, hle, hc⟩ := readP_inv hr (he.ev x) hp
    rw [getL_eq] at hk
    split at hk
    · rename_i v hv
      have hlt : sub < cs.length := by
        rcases Nat.lt_or_ge sub cs.length with h | h
        · exact h
        · rw [List.getElem?_eq_none h] at hv; cases hv
      have hy : C[base + sub]? = some C[base + sub] := Array.getElem?_eq_getElem (by omega)
      refine ⟨v, C[base + sub], hk, hrun _ _ _ hx ?_, hc sub v _ hv hy⟩
      simp [loadVar, isAgg_run hag, World.cell?, hw, hy]
    · exact hk.elim
  · exact hp.elim
end
end Ab
namespace Ab
set_option linter.unusedVariables false
set_option linter.unusedSimpArgs false
open Go
section
variable {P : Program} {Γ : CallR} {c : Cx} {h : Heap} {w : World} {e : Env} {a : Act} {o : Oper} {k kp : SV → Heap → Prop}

theorem Sees.of (v : SV) (x : Value) (hk : k v h) (hrun : (execOp a.eval o).run P w = .ok (.value x) w) (hv : VR c h w v x) : Sees P c h w a o k := ⟨v, x, hk, hrun, hv⟩

theorem sees_mov (he : ER c h w e a.tmps) {x : Operand} (ho : o.op = .move x ∨ o.op = .assign x) (hp : aop P Γ (.mov (cOpd x)) e h k kp) : Sees P c h w a o k := by
  simp only [aop, evK_eq] at hp
  refine .of _ (a.eval x) hp ?_ (he.ev x)
  rcases ho with ho | ho <;> simp [execOp, ho]

theorem sees_pick (he : ER c h w e a.tmps) {x y z : Operand} (ho : o.op = .pick x y z) (hp : aop P Γ (.pick (cOpd x) (cOpd y) (cOpd z)) e h k kp) : Sees P c h w a o k := by
  simp only [aop, evK_eq] at hp
  have hx := he.ev x
  have hy := he.ev y
  have hz := he.ev z
  split at hp
  · rename_i b hb
    rw [hb] at hx
    have hx := hx.bool_inv
    have hrun : (execOp a.eval o).run P w = .ok (.value (if b then a.eval y else a.eval z)) w := by simp [execOp, ho, hx, asBool]
    cases b
    · exact .of _ _ hp hrun hz
    · exact .of _ _ hp hrun hy
  · exact hp.elim

theorem kEq_iff {k k' : IntKind} : kEq k k' = true ↔ k = k' := by cases k <;> cases k' <;> simp [kEq]

theorem arith_run (op : BinOp) (t : TypeId) {kk k' : IntKind} {m n : Int} {K : SV → Prop} (hp : arith op kk k' m n K) :
    ∃ v x, K v ∧ (binOp op t (.int kk m) (.int k' n)).run P w = .ok x w ∧ VR c h w v x := by
  by_cases hsh : op = .shl ∨ op = .shr
  · rcases hsh with rfl | rfl
    · simp only [arith] at hp
      replace hp := asr_iff.1 hp
      obtain ⟨h0, hp⟩ := hp
      simp only [decide_eq_true_eq] at h0
      exact ⟨_, _, hp, by simp [binOp_shl, Op.shift, Int.not_lt.2 h0], .int⟩
    · simp only [arith] at hp
      replace hp := asr_iff.1 hp
      obtain ⟨h0, hp⟩ := hp
      simp only [decide_eq_true_eq] at h0
      exact ⟨_, _, hp, by simp [binOp_shr, Op.shift, Int.not_lt.2 h0], .int⟩
  have hkk : kk = k' := by
    cases op <;> first | exact absurd (.inl rfl) hsh | exact absurd (.inr rfl) hsh | exact kEq_iff.1 (asr_iff.1 hp).1
  subst hkk
  cases op <;> first | exact absurd (.inl rfl) hsh | exact absurd (.inr rfl) hsh | skip
  all_goals (simp only [arith] at hp; replace hp := (asr_iff.1 hp).2)
  case quo =>
    replace hp := asr_iff.1 hp
    obtain ⟨h0, hp⟩ := hp
    simp only [Bool.not_eq_true', decide_eq_false_iff_not] at h0
    exact ⟨_, _, hp, by simp [binOp_quo, Op.intDiv, h0], .int⟩
  case rem =>
    replace hp := asr_iff.1 hp
    obtain ⟨h0, hp⟩ := hp
    simp only [Bool.not_eq_true', decide_eq_false_iff_not] at h0
    exact ⟨_, _, hp, by simp [binOp_rem, Op.intDiv, h0], .int⟩
  case add => exact ⟨_, _, hp, by simp [binOp_add, Op.intArith], .int⟩
  case sub => exact ⟨_, _, hp, by simp [binOp_sub, Op.intArith], .int⟩
  case mul => exact ⟨_, _, hp, by simp [binOp_mul, Op.intArith], .int⟩
  case and => exact ⟨_, _, hp, by simp [binOp_and, Op.intBits, bitsI], .int⟩
  case or => exact ⟨_, _, hp, by simp [binOp_or, Op.intBits, bitsI], .int⟩
  case xor => exact ⟨_, _, hp, by simp [binOp_xor, Op.intBits, bitsI], .int⟩
  case andNot => exact ⟨_, _, hp, by simp [binOp_andNot, Op.intBits, bitsI], .int⟩
  case eql => exact ⟨_, _, hp, by simp [binOp_eql], .bool⟩
  case neq => exact ⟨_, _, hp, by simp [binOp_neq], .bool⟩
  case lss => exact ⟨_, _, hp, by simp [binOp_lss], .bool⟩
  case leq => exact ⟨_, _, hp, by simp [binOp_leq], .bool⟩
  case gtr => exact ⟨_, _, hp, by simp [binOp_gtr], .bool⟩
  case geq => exact ⟨_, _, hp, by simp [binOp_geq], .bool⟩

theorem strOp_run (op : BinOp) (t : TypeId) {m n : List UInt8} {K : SV → Prop} (hp : strOp op m n K) :
    ∃ v x, K v ∧ (binOp op t (.string ⟨m.toArray⟩) (.string ⟨n.toArray⟩)).run P w = .ok x w ∧ VR c h w v x := by
  cases op <;> simp only [strOp] at hp <;> try exact hp.elim
  case add =>
    obtain ⟨h0, hp⟩ := asr_iff.1 hp
    simp only [decide_eq_true_eq] at h0
    refine ⟨_, _, hp, ?_, .str⟩
    have hs : (ByteArray.mk m.toArray).size = m.length := by simp [ByteArray.size]
    have hs' : (ByteArray.mk n.toArray).size = n.length := by simp [ByteArray.size]
    have : ¬ ((m.length + n.length : Nat) : Int) > IntKind.i64.max := by simp; omega
    simp only [binOp, Op.stringOp, hs, hs', this, if_false]
    have hap : (ByteArray.mk m.toArray ++ ByteArray.mk n.toArray) = ByteArray.mk (m ++ n).toArray := by
      apply ByteArray.ext
      simp
    rw [hap]
    rfl
  case eql => exact ⟨_, _, hp, by simp [binOp_string_eql], .bool⟩
  case neq => exact ⟨_, _, hp, by simp [binOp_string_neq], .bool⟩
  case lss => exact ⟨_, _, hp, by simp [binOp_string_lss, strLess], .bool⟩
  case leq => exact ⟨_, _, hp, by simp [binOp_string_leq, strLess], .bool⟩
  case gtr => exact ⟨_, _, hp, by simp [binOp_string_gtr, strLess], .bool⟩
  case geq => exact ⟨_, _, hp, by simp [binOp_string_geq, strLess], .bool⟩

theorem eqCells_run (d : Nat) (xs ys : Array Value) : ∀ (fs : List Field) (off : Nat) (l m : List SV) (p : Bool) (ks : List EqK), eqKinds P off fs = some ks →
    (∀ (i : Nat) (v : SV) (x : Value), l[i]? = some v → xs[off + i]? = some x → VR c h w v x) → (∀ (i : Nat) (v : SV) (x : Value), m[i]? = some v → ys[off + i]? = some x → VR c h w v x) →
    off + l.length ≤ xs.size → off + m.length ≤ ys.size →
    eqCells ks l m = some p → (Op.eqFields (d + 1) xs ys fs).run P w = .ok p w
  | [], off, l, m, p, ks, hk, _, _, _, _, hq => by
    simp only [eqKinds, Option.some.injEq] at hk
    subst hk
    simp only [eqCells, Option.some.injEq] at hq
    subst hq
    rfl
  | f :: fs, off, l, m, p, ks, hk, hl, hm, hxl, hym, hq => by
    simp only [eqKinds] at hk
    cases hcond : (f.name != "_" && Nat.beq f.offset off)
    · rw [hcond] at hk; cases hk
    rw [hcond] at hk
    simp only [cond_true] at hk
    simp only [Bool.and_eq_true] at hcond
    obtain ⟨hn, ho⟩ := hcond
    have ho0 := Nat.eq_of_beq_eq_true ho
    have hty : ∃ ek es, ks = ek :: es ∧ eqKinds P (off + 1) fs = some es ∧ isAggT P f.type = some false ∧
        (match ek with | .int => ∃ k, P.underlying f.type = some (.int k) | .str => P.underlying f.type = some .string | .bool => P.underlying f.type = some .bool) := by
      unfold isAggT
      split at hk
      · rename_i k hu
        obtain ⟨es, h1, h2⟩ := Option.map_eq_some_iff.1 hk
        exact ⟨_, es, h2.symm, h1, by simp [hu], ⟨k, hu⟩⟩
      · rename_i hu
        obtain ⟨es, h1, h2⟩ := Option.map_eq_some_iff.1 hk
        exact ⟨_, es, h2.symm, h1, by simp [hu], hu⟩
      · rename_i hu
        obtain ⟨es, h1, h2⟩ := Option.map_eq_some_iff.1 hk
        exact ⟨_, es, h2.symm, h1, by simp [hu], hu⟩
      · cases hk
    obtain ⟨ek, es, rfl, hks, hag, hu⟩ := hty
    cases l with
    | nil => simp [eqCells] at hq
    | cons x l =>
    cases m with
    | nil => simp [eqCells] at hq
    | cons y m =>
    simp only [List.length_cons] at hxl hym
    have hxo : off < xs.size := by omega
    have hyo : off < ys.size := by omega
    have hxg : xs[off]? = some xs[off] := Array.getElem?_eq_getElem hxo
    have hyg : ys[off]? = some ys[off] := Array.getElem?_eq_getElem hyo
    have hx0 := hl 0 x xs[off] rfl hxg
    have hy0 := hm 0 y ys[off] rfl hyg
    have hpart : ∀ (zs : Array Value) z, zs[off]? = some z → (part f.type zs f.offset).run P w = .ok z w := by
      intro zs z hz
      simp [part, isAgg_run hag, ho0, hz]
    unfold eqCells at hq
    generalize hhd : eqOne ek x y = hd at hq
    have hhead : ∀ q, hd = some q → (Op.equalIn (d + 1) f.type xs[off] ys[off]).run P w = .ok q w := by
      intro q hqq
      subst hqq
      unfold eqOne at hhd
      split at hhd
      · rename_i k a k' b
        split at hhd
        · rename_i hkk
          cases hhd
          obtain ⟨kk, hu⟩ := hu
          rw [hx0.int_inv, hy0.int_inv, kEq_iff.1 hkk]
          exact run_equalIn_int w d f.type k' kk a b hu
        · cases hhd
      · cases hhd
        rw [hx0.str_inv, hy0.str_inv, run_equalIn_string w d f.type _ _ hu]
        simp
      · cases hhd
        rw [hx0.bool_inv, hy0.bool_inv]
        exact run_equalIn_bool' w d f.type _ _ hu
      · cases hhd
    have hn' : f.name ≠ "_" := by simpa using hn
    cases hd with
    | none => exact absurd hq (by simp)
    | some q =>
    dsimp only at hq
    have hrun := hhead q rfl
    simp only [Op.eqFields, hn', ne_eq, not_false_eq_true, if_true, Sem.run_bind, hpart xs _ hxg, hpart ys _ hyg, Result.andThen_ok, hrun]
    have hrest : ∀ q', eqCells es l m = some q' → (Op.eqFields (d + 1) xs ys fs).run P w = .ok q' w := fun q' hq' =>
      eqCells_run d xs ys fs (off + 1) l m q' es hks (fun i v z hv hz => hl (i + 1) v z (by simpa using hv) (by simpa [Nat.add_assoc, Nat.add_comm 1 i] using hz))
        (fun i v z hv hz => hm (i + 1) v z (by simpa using hv) (by simpa [Nat.add_assoc, Nat.add_comm 1 i] using hz)) (by omega) (by omega) hq'
    split at hq
    · cases hq
      have := hrest true (by simp [eqCells])
      cases p <;> simp [this]
    · obtain ⟨q', hq', rfl⟩ := Option.map_eq_some_iff.1 hq
      cases q
      · simp
      · simp [hrest q' hq']

theorem eqCells_cons {e : EqK} {es : List EqK} {l m : List SV} {p : Bool} (hq : eqCells (e :: es) l m = some p) : ∃ x l' y m' q0 q, l = x :: l' ∧ m = y :: m' ∧ eqOne e x y = some q0 ∧ eqCells es l' m' = some q ∧ p = (q0 && q) := by
  cases l with
  | nil => simp [eqCells] at hq
  | cons x l =>
  cases m with
  | nil => simp [eqCells] at hq
  | cons y m =>
  unfold eqCells at hq
  cases h1 : eqOne e x y with
  | none => rw [h1] at hq; simp at hq
  | some q0 =>
    rw [h1] at hq
    dsimp only at hq
    split at hq
    · cases hq
      exact ⟨x, l, y, m, p, true, rfl, rfl, h1, by simp [eqCells], by simp⟩
    · obtain ⟨q, hq', rfl⟩ := Option.map_eq_some_iff.1 hq
      exact ⟨x, l, y, m, q0, q, rfl, rfl, h1, hq', rfl⟩
theorem eqCells_mk {e : EqK} {es : List EqK} {x y : SV} {l m : List SV} {q0 q : Bool} (h0 : eqOne e x y = some q0) (h1 : eqCells es l m = some q) : eqCells (e :: es) (x :: l) (y :: m) = some (q0 && q) := by
  unfold eqCells
  rw [h0]
  cases es with
  | nil => simp only [eqCells, Option.some.injEq] at h1; subst h1; simp
  | cons e' es => simp [h1]
theorem eqCells_append : ∀ {k1 k2 : List EqK} {l m : List SV} {p : Bool}, eqCells (k1 ++ k2) l m = some p →
    ∃ q1 q2, eqCells k1 (l.take k1.length) (m.take k1.length) = some q1 ∧ eqCells k2 (l.drop k1.length) (m.drop k1.length) = some q2 ∧ p = (q1 && q2)
  | [], k2, l, m, p, hq => ⟨true, p, by simp [eqCells], hq, by simp⟩
  | e :: k1, k2, l, m, p, hq => by
    obtain ⟨x, l', y, m', q0, q, rfl, rfl, h1, h2, rfl⟩ := eqCells_cons hq
    obtain ⟨q1, q2, h3, h4, rfl⟩ := eqCells_append h2
    exact ⟨q0 && q1, q2, by simpa using eqCells_mk h1 h3, by simpa using h4, by simp [Bool.and_assoc]⟩
theorem eqCells_len : ∀ {k1 : List EqK} {l m : List SV} {p : Bool}, eqCells k1 l m = some p → k1.length ≤ l.length ∧ k1.length ≤ m.length
  | [], l, m, p, _ => ⟨Nat.zero_le _, Nat.zero_le _⟩
  | e :: k1, l, m, p, hq => by
    obtain ⟨x, l', y, m', q0, q, rfl, rfl, h1, h2, rfl⟩ := eqCells_cons hq
    have := eqCells_len h2
    simp only [List.length_cons]
    omega
theorem eqCells2_run (d : Nat) (xs ys : Array Value) : ∀ (fs : List Field) (off : Nat) (l m : List SV) (p : Bool) (ks : List EqK), eqKinds2 P off fs = some ks →
    (∀ (i : Nat) (v : SV) (x : Value), l[i]? = some v → xs[off + i]? = some x → VR c h w v x) → (∀ (i : Nat) (v : SV) (x : Value), m[i]? = some v → ys[off + i]? = some x → VR c h w v x) →
    off + l.length ≤ xs.size → off + m.length ≤ ys.size →
    eqCells ks l m = some p → (Op.eqFields (d + 2) xs ys fs).run P w = .ok p w
  | [], off, l, m, p, ks, hk, _, _, _, _, hq => by
    simp only [eqKinds2, Option.some.injEq] at hk
    subst hk
    simp only [eqCells, Option.some.injEq] at hq
    subst hq
    rfl
  | f :: fs, off, l, m, p, ks, hk, hl, hm, hxl, hym, hq => by
    simp only [eqKinds2] at hk
    cases hcond : (f.name != "_" && Nat.beq f.offset off)
    · rw [hcond] at hk; cases hk
    rw [hcond] at hk
    simp only [cond_true] at hk
    simp only [Bool.and_eq_true] at hcond
    obtain ⟨hn, ho⟩ := hcond
    have ho0 := Nat.eq_of_beq_eq_true ho
    have hn' : f.name ≠ "_" := by simpa using hn
    have hty : (∃ ek es, ks = ek :: es ∧ eqKinds2 P (off + 1) fs = some es ∧ isAggT P f.type = some false ∧
        (match ek with | .int => ∃ k, P.underlying f.type = some (.int k) | .str => P.underlying f.type = some .string | .bool => P.underlying f.type = some .bool)) ∨
        (∃ k1 es gs i, ks = k1 ++ es ∧ eqKinds2 P (off + k1.length) fs = some es ∧ isAggT P f.type = some true ∧ P.underlying f.type = some (.struct gs) ∧ P.stoodInHeld f.type = false ∧ eqKinds P 0 gs.toList = some k1 ∧ P.info? f.type = some i ∧ i.size = k1.length) := by
      unfold isAggT
      split at hk
      · rename_i k hu
        obtain ⟨es, h1, h2⟩ := Option.map_eq_some_iff.1 hk
        exact .inl ⟨_, es, h2.symm, h1, by simp [hu], ⟨k, hu⟩⟩
      · rename_i hu
        obtain ⟨es, h1, h2⟩ := Option.map_eq_some_iff.1 hk
        exact .inl ⟨_, es, h2.symm, h1, by simp [hu], hu⟩
      · rename_i hu
        obtain ⟨es, h1, h2⟩ := Option.map_eq_some_iff.1 hk
        exact .inl ⟨_, es, h2.symm, h1, by simp [hu], hu⟩
      · rename_i gs hu
        cases hst : P.stoodInHeld f.type
        · rw [hst] at hk
          simp only [cond_false] at hk
          split at hk
          · rename_i k1 i hk1 hi
            cases hsz : Nat.beq i.size k1.length
            · rw [hsz] at hk; cases hk
            · rw [hsz] at hk
              simp only [cond_true] at hk
              obtain ⟨es, h1, h2⟩ := Option.map_eq_some_iff.1 hk
              exact .inr ⟨k1, es, gs, i, h2.symm, h1, by simp [hu], hu, rfl, hk1, hi, Nat.eq_of_beq_eq_true hsz⟩
          · cases hk
        · rw [hst] at hk; cases hk
      · cases hk
    rcases hty with ⟨ek, es, rfl, hks, hag, hu⟩ | ⟨k1, es, gs, i, rfl, hks, hag, hu, hst, hk1, hi, hsz⟩
    · obtain ⟨x, l', y, m', q, q', rfl, rfl, hhd, hq', rfl⟩ := eqCells_cons hq
      simp only [List.length_cons] at hxl hym
      have hxo : off < xs.size := by omega
      have hyo : off < ys.size := by omega
      have hxg : xs[off]? = some xs[off] := Array.getElem?_eq_getElem hxo
      have hyg : ys[off]? = some ys[off] := Array.getElem?_eq_getElem hyo
      have hx0 := hl 0 x xs[off] rfl hxg
      have hy0 := hm 0 y ys[off] rfl hyg
      have hpart : ∀ (zs : Array Value) z, zs[off]? = some z → (part f.type zs f.offset).run P w = .ok z w := by
        intro zs z hz
        simp [part, isAgg_run hag, ho0, hz]
      have hrun : (Op.equalIn (d + 2) f.type xs[off] ys[off]).run P w = .ok q w := by
        unfold eqOne at hhd
        split at hhd
        · rename_i k a k' b
          split at hhd
          · rename_i hkk
            cases hhd
            obtain ⟨kk, hu⟩ := hu
            rw [hx0.int_inv, hy0.int_inv, kEq_iff.1 hkk]
            exact run_equalIn_int w (d + 1) f.type k' kk a b hu
          · cases hhd
        · cases hhd
          rw [hx0.str_inv, hy0.str_inv, run_equalIn_string w (d + 1) f.type _ _ hu]
          simp
        · cases hhd
          rw [hx0.bool_inv, hy0.bool_inv]
          exact run_equalIn_bool' w (d + 1) f.type _ _ hu
        · cases hhd
      simp only [Op.eqFields, hn', ne_eq, not_false_eq_true, if_true, Sem.run_bind, hpart xs _ hxg, hpart ys _ hyg, Result.andThen_ok, hrun]
      have hrest := eqCells2_run d xs ys fs (off + 1) l' m' q' es hks (fun i v z hv hz => hl (i + 1) v z (by simpa using hv) (by simpa [Nat.add_assoc, Nat.add_comm 1 i] using hz))
          (fun i v z hv hz => hm (i + 1) v z (by simpa using hv) (by simpa [Nat.add_assoc, Nat.add_comm 1 i] using hz)) (by omega) (by omega) hq'
      cases q
      · simp
      · simp [hrest]
    · obtain ⟨q, q', hhd, hq', rfl⟩ := eqCells_append hq
      have hfo : P.fieldsOf f.type = gs := by simp [Program.fieldsOf, hu]
      have hpart : ∀ (zs : Array Value), (part f.type zs f.offset).run P w = .ok (.agg (zs.extract off (off + k1.length))) w := by
        intro zs
        simp [part, isAgg_run hag, ho0, sizeOf_run hi, hsz]
      have hrun : (Op.equalIn (d + 2) f.type (.agg (xs.extract off (off + k1.length))) (.agg (ys.extract off (off + k1.length)))).run P w = .ok q w := by
        rw [run_equalIn_struct (P := P) w (d + 1) f.type _ _ (by rw [hfo]; exact hu) hst, hfo]
        refine eqCells_run (c := c) (h := h) d _ _ gs.toList 0 (l.take k1.length) (m.take k1.length) q k1 hk1 (fun j v z hv hz => ?_) (fun j v z hv hz => ?_) (by simp; omega) (by simp; omega) hhd
        · rw [List.getElem?_take] at hv
          split at hv
          · rw [Array.getElem?_extract] at hz
            split at hz
            · exact hl j v z hv (by simpa using hz)
            · cases hz
          · cases hv
        · rw [List.getElem?_take] at hv
          split at hv
          · rw [Array.getElem?_extract] at hz
            split at hz
            · exact hm j v z hv (by simpa using hz)
            · cases hz
          · cases hv
      simp only [Op.eqFields, hn', ne_eq, not_false_eq_true, if_true, Sem.run_bind, hpart xs, hpart ys, Result.andThen_ok, hrun]
      have hrest := eqCells2_run d xs ys fs (off + k1.length) (l.drop k1.length) (m.drop k1.length) q' es hks
          (fun j v z hv hz => hl (k1.length + j) v z (by rw [List.getElem?_drop] at hv; exact hv) (by rw [Nat.add_assoc] at hz; exact hz))
          (fun j v z hv hz => hm (k1.length + j) v z (by rw [List.getElem?_drop] at hv; exact hv) (by rw [Nat.add_assoc] at hz; exact hz)) (by
            have hlen := eqCells_len hhd
            simp at hlen ⊢
            omega) (by
            have hlen := eqCells_len hhd
            simp at hlen ⊢
            omega) hq'
      cases q
      · simp
      · simp [hrest]

theorem sees_bin (he : ER c h w e a.tmps) {op : BinOp} {t yt : TypeId} {x y : Operand} (ho : o.op = .binOp op t x y yt) (hp : aop P Γ (.bin op (cOpd x) (cOpd y)) e h k kp) : Sees P c h w a o k := by
  simp only [aop, evK_eq] at hp
  have hx := he.ev x
  have hy := he.ev y
  split at hp
  · rename_i h1 h2
    rw [h1] at hx; rw [h2] at hy
    obtain ⟨v, z, hk, hr, hv⟩ := arith_run (P := P) (c := c) (h := h) (w := w) op t hp
    refine .of v z hk ?_ hv
    simp [execOp, ho, hx.int_inv, hy.int_inv, eqGuard_at_int, hr]
  · rename_i h1 h2
    rw [h1] at hx; rw [h2] at hy
    obtain ⟨v, z, hk, hr, hv⟩ := strOp_run (P := P) (c := c) (h := h) (w := w) op t hp
    refine .of v z hk ?_ hv
    simp [execOp, ho, hx.str_inv, hy.str_inv, eqGuard_at_string, hr]
  · exact hp.elim

theorem sees_eqB (he : ER c h w e a.tmps) {neg : Bool} {t yt : TypeId} {x y : Operand} (ho : o.op = .binOp (if neg then .neq else .eql) t x y yt) (hu : P.underlying t = some .bool)
    (hp : aop P Γ (.eqB neg (cOpd x) (cOpd y)) e h k kp) : Sees P c h w a o k := by
  simp only [aop, evK_eq] at hp
  have hx := he.ev x
  have hy := he.ev y
  split at hp
  · rename_i p q h1 h2
    rw [h1] at hx; rw [h2] at hy
    have hq : (Op.equal t (.bool p) (.bool q)).run P w = .ok (p == q) w := run_equalIn_bool' w 9999 t p q hu
    cases neg
    · refine .of _ _ hp ?_ .bool
      simp [execOp, ho, hx.bool_inv, hy.bool_inv, eqGuard_at_bool, binOp, hq]
    · refine .of _ _ hp ?_ .bool
      simp [execOp, ho, hx.bool_inv, hy.bool_inv, eqGuard_at_bool, binOp, hq]
  · exact hp.elim

theorem sees_eqA (he : ER c h w e a.tmps) {neg : Bool} {t yt : TypeId} {x y : Operand} {fs : Array Field} {ks : List EqK} (ho : o.op = .binOp (if neg then .neq else .eql) t x y yt) (hu : P.underlying t = some (.struct fs))
    (hs : P.stoodInHeld t = false) (hg : P.eqGuardType P.depth t = false) (hks : eqKinds2 P 0 fs.toList = some ks)
    (hp : aop P Γ (.eqA neg ks (cOpd x) (cOpd y)) e h k kp) : Sees P c h w a o k := by
  simp only [aop, evK_eq] at hp
  have hx := he.ev x
  have hy := he.ev y
  split at hp
  · rename_i l m h1 h2
    rw [h1] at hx; rw [h2] at hy
    obtain ⟨xs, hxe, hxl, hxc⟩ := hx.agg_inv
    obtain ⟨ys, hye, hyl, hyc⟩ := hy.agg_inv
    split at hp
    · rename_i p hq
      have hfo : P.fieldsOf t = fs := by simp [Program.fieldsOf, hu]
      have hrun := eqCells2_run (P := P) (c := c) (h := h) (w := w) 9997 xs ys fs.toList 0 l m p ks hks (fun i v x hv hx => hxc i v x hv (by simpa using hx)) (fun i v x hv hx => hyc i v x hv (by simpa using hx)) (by omega) (by omega) hq
      have he := run_equalIn_struct (P := P) w 9999 t xs ys (by rw [hfo]; exact hu) hs
      rw [hfo, hrun] at he
      cases neg
      · refine .of _ _ hp ?_ .bool
        simp [execOp, ho, hxe, hye, run_eqGuard_agg w _ t x y xs ys hg, run_eql_struct, he]
      · refine .of _ _ hp ?_ .bool
        simp [execOp, ho, hxe, hye, run_eqGuard_agg w _ t x y xs ys hg, run_neq_struct, he]
    · exact hp.elim
  · exact hp.elim

theorem sees_un (he : ER c h w e a.tmps) {u : UnOp} {t : TypeId} {x : Operand} (ho : o.op = .unOp u t x) (hp : aop P Γ (.un u (cOpd x)) e h k kp) : Sees P c h w a o k := by
  simp only [aop, evK_eq] at hp
  have hx := he.ev x
  split at hp
  · rename_i h1
    rw [h1] at hx
    refine .of _ _ hp ?_ .bool
    simp [execOp, ho, hx.bool_inv, Op.unary]
  · rename_i h1
    rw [h1] at hx
    refine .of _ _ hp ?_ .int
    simp [execOp, ho, hx.int_inv, Op.unary, Op.intArith]
  · rename_i h1
    rw [h1] at hx
    refine .of _ _ hp ?_ .int
    simp [execOp, ho, hx.int_inv, Op.unary, Op.intBits, bitsI]
  · exact hp.elim

theorem sees_conv (he : ER c h w e a.tmps) {s d : TypeId} {x : Operand} {kd ks : IntKind} (ho : o.op = .convert s d x) (hs : P.underlying s = some (.int ks)) (hd : P.underlying d = some (.int kd))
    (hp : aop P Γ (.conv kd (cOpd x)) e h k kp) : Sees P c h w a o k := by
  simp only [aop, evK_eq] at hp
  have hx := he.ev x
  split at hp
  · rename_i h1
    rw [h1] at hx
    refine .of _ _ hp ?_ .int
    simp [execOp, ho, hx.int_inv, convert, run_underlying hs, run_underlying hd, Conv.intToInt]
  · exact hp.elim

theorem sees_strConv (he : ER c h w e a.tmps) {s d : TypeId} {x : Operand} (ho : o.op = .convert s d x) (hs : P.underlying s = some .string) (hd : P.underlying d = some .string)
    (hp : aop P Γ (.strMov (cOpd x)) e h k kp) : Sees P c h w a o k := by
  simp only [aop, evK_eq] at hp
  have hx := he.ev x
  split at hp
  · rename_i h1
    rw [h1] at hx
    refine .of _ _ hp ?_ .str
    simp [execOp, ho, hx.str_inv, convert, run_underlying hs, run_underlying hd]
  · exact hp.elim

theorem evs_rel (he : ER c h w e a.tmps) (xs : Array Operand) (i : Nat) (v : SV) (y : Value) (hv : ((xs.toList.map cOpd).map (AOpd.ev e))[i]? = some v) (hy : (xs.map a.eval)[i]? = some y) : VR c h w v y := by
  simp only [List.map_map, List.getElem?_map, Option.map_eq_some_iff, Array.getElem?_toList] at hv
  obtain ⟨x, hx, rfl⟩ := hv
  rw [Array.getElem?_map, hx] at hy
  cases hy
  exact he.ev x

theorem sees_mkFunc (he : ER c h w e a.tmps) {fn : Fn} {xs ys : Array Operand} (ho : o.op = .makeFunc fn xs ys) (hp : aop P Γ (.mkFunc fn (xs.toList.map cOpd) (ys.toList.map cOpd)) e h k kp) : Sees P c h w a o k := by
  simp only [aop, evsK_eq] at hp
  refine .of _ (.func fn (xs.map a.eval) (ys.map a.eval)) hp (by simp [execOp, ho, Instr.makeFunc]) (.func _ _ _ _ _ (by simp) (by simp) (evs_rel he xs) (evs_rel he ys))

theorem sees_mkIface (he : ER c h w e a.tmps) {t : TypeId} {x : Operand} {d : TypeDesc} (ho : o.op = .makeInterface t x) (hu : P.underlying t = some d) (hd : ∀ ms, d ≠ .interface ms)
    (hp : aop P Γ (.mkIface t (cOpd x)) e h k kp) : Sees P c h w a o k := by
  simp only [aop, evK_eq] at hp
  refine .of _ _ hp ?_ (.iface _ _ _ (he.ev x))
  simp only [execOp, ho, Instr.makeInterface, Sem.run_bind, run_underlying hu, Result.andThen_ok]
  cases d <;> first | exact absurd rfl (hd _) | rfl

theorem liveF_inv {i g : Nat} {p : Prop} (hp : liveF h i g p) : p ∧ ∃ o, h.obj i = some o ∧ o.gen = g := by
  obtain ⟨n, l⟩ := h
  unfold liveF at hp
  simp only [lookO_eq] at hp
  split at hp
  · rename_i ob hob
    split at hp
    · replace hp := asr_iff.1 hp
      exact ⟨hp.2, _, hob, Nat.eq_of_beq_eq_true hp.1⟩
    · replace hp := asr_iff.1 hp
      exact ⟨hp.2, _, hob, Nat.eq_of_beq_eq_true hp.1⟩
    · exact hp.elim
  · exact hp.elim
theorem liveF_det {i g : Nat} {p : Prop} (hp : liveF h i g p) : p ∧ ∀ q : Prop, q → liveF h i g q := by
  obtain ⟨n, l⟩ := h
  unfold liveF at hp ⊢
  simp only [lookO_eq] at hp ⊢
  split at hp
  · rename_i ob hob
    split at hp
    · replace hp := asr_iff.1 hp; exact ⟨hp.2, fun q hq => asr_iff.2 ⟨hp.1, hq⟩⟩
    · replace hp := asr_iff.1 hp; exact ⟨hp.2, fun q hq => asr_iff.2 ⟨hp.1, hq⟩⟩
    · exact hp.elim
  · exact hp.elim
theorem liveK_inv {i g : Nat} {p : Prop} (hp : liveK h i g p) : p ∧ ∃ sz elems sk, h.obj i = some (.vec g sz elems sk) := by
  obtain ⟨n, l⟩ := h
  unfold liveK at hp
  simp only [lookO_eq] at hp
  split at hp
  · rename_i ob hob
    split at hp
    · replace hp := asr_iff.1 hp
      obtain ⟨hg, hp⟩ := hp
      have hg := Nat.eq_of_beq_eq_true hg
      exact ⟨hp, _, _, _, by rw [← hg]; exact hob⟩
    · exact hp.elim
  · exact hp.elim

theorem ref_live {i g idx sub : Nat} {x : Value} (hx : VR c h w (.ref i g idx sub) x) {p : Prop} (hp : liveK h i g p) :
    p ∧ ∃ q, x = .pointer (some ⟨c.β i, q + sub, none⟩) ∧ ∀ sub', VR c h w (.ref i g idx sub') (.pointer (some ⟨c.β i, q + sub', none⟩)) := by
  obtain ⟨hp, sz, elems, sk, hob⟩ := liveK_inv hp
  refine ⟨hp, idx * sz, hx.ref_inv hob rfl, fun sub' => ?_⟩
  cases hx with
  | pure hx => cases hx
  | ref _ _ _ _ _ _ hi hg _ =>
    refine .ref _ _ _ _ _ ⟨_, rfl⟩ hi hg fun o' ho' _ => ?_
    rw [hob] at ho'; cases ho'; rfl

theorem sees_fieldAddr (he : ER c h w e a.tmps) {s : TypeId} {x : Operand} {f : Nat} {fs : Array Field} {fd : Field} {i : TypeInfo} (ho : o.op = .fieldAddr s x f) (hu : P.underlying s = some (.struct fs)) (hf : fs[f]? = some fd)
    (hi : P.info? fd.type = some i) (hz : i.size ≠ 0) (hp : aop P Γ (.fieldAddr fd.offset (cOpd x)) e h k kp) : Sees P c h w a o k := by
  simp only [aop, evK_eq] at hp
  have hx := he.ev x
  have hrun : ∀ b q, a.eval x = .pointer (some ⟨b, q, none⟩) → (execOp a.eval o).run P w = .ok (.value (.pointer (some ⟨b, q + fd.offset, none⟩))) w := by
    intro b q hq
    simp [execOp, ho, hq, Instr.fieldAt, run_underlying hu, hf, Instr.sureAddr, fieldPlace, sizeOf_run hi, hz, add_eq]
  split at hp
  · rename_i h1
    rw [h1] at hx
    obtain ⟨hp, q, hq, hv⟩ := ref_live hx hp
    refine .of _ _ hp (hrun _ _ hq) ?_
    rw [Nat.add_assoc]
    exact hv _
  · rename_i v sub h1
    rw [h1] at hx
    obtain ⟨b, q, C, ty, fz, hq, hb, hw, hn, hc⟩ := hx.ipt_inv
    refine .of _ _ hp (hrun _ _ hq) ?_
    rw [Nat.add_assoc]
    exact .pure (.ipt _ _ _ _ _ _ _ hb hw hn hc)
  · exact hp.elim

theorem sees_field (he : ER c h w e a.tmps) {t : TypeId} {x : Operand} {f : Nat} {fs : Array Field} {fd : Field} (ho : o.op = .field t x f) (hu : P.underlying t = some (.struct fs)) (hf : fs[f]? = some fd) :
    (isAggT P fd.type = some false → aop P Γ (.fieldS fd.offset (cOpd x)) e h k kp → Sees P c h w a o k) ∧
    (∀ i, isAggT P fd.type = some true → P.info? fd.type = some i → aop P Γ (.fieldA fd.offset i.size (cOpd x)) e h k kp → Sees P c h w a o k) := by
  have hx := he.ev x
  refine ⟨fun hag hp => ?_, fun i hag hi hp => ?_⟩
  · simp only [aop, evK_eq] at hp
    split at hp
    · rename_i l h1
      rw [h1] at hx
      obtain ⟨cs, hcs, hl, hc⟩ := hx.agg_inv
      rw [getL_eq] at hp
      split at hp
      · rename_i v hv
        have hlt : fd.offset < l.length := by
          rcases Nat.lt_or_ge fd.offset l.length with h | h
          · exact h
          · rw [List.getElem?_eq_none h] at hv; cases hv
        have hy : cs[fd.offset]? = some cs[fd.offset] := Array.getElem?_eq_getElem (by omega)
        refine .of v cs[fd.offset] hp ?_ (hc _ v _ hv hy)
        simp [execOp, ho, hcs, Instr.field, run_underlying hu, hf, asAgg, part, isAgg_run hag, hy]
      · exact hp.elim
    · exact hp.elim
  · simp only [aop, evK_eq] at hp
    split at hp
    · rename_i l h1
      rw [h1] at hx
      obtain ⟨cs, hcs, hl, hc⟩ := hx.agg_inv
      obtain ⟨h2, hp⟩ := dropN_iff.1 hp
      obtain ⟨h3, hp⟩ := takeN_iff.1 hp
      simp only [List.length_drop] at h3
      refine .of _ (.agg (cs.extract fd.offset (fd.offset + i.size))) hp ?_ (.agg _ _ ?_ fun j v y hv hy => ?_)
      · simp [execOp, ho, hcs, Instr.field, run_underlying hu, hf, asAgg, part, isAgg_run hag, sizeOf_run hi]
      · simp; omega
      · simp only [List.getElem?_take, List.getElem?_drop] at hv
        split at hv
        · rename_i hj
          rw [Array.getElem?_extract] at hy
          split at hy
          · exact hc (fd.offset + j) v y hv hy
          · cases hy
        · cases hv
    · exact hp.elim

theorem sees_index (he : ER c h w e a.tmps) {t : TypeId} {x i : Operand} (ho : o.op = .index t x i) (hu : P.underlying t = some .string) (hp : aop P Γ (.index (cOpd x) (cOpd i)) e h k kp) : Sees P c h w a o k := by
  simp only [aop, evK_eq] at hp
  have hx := he.ev x
  have hi := he.ev i
  split at hp
  · rename_i s kk j h1 h2
    rw [h1] at hx; rw [h2] at hi
    replace hp := asr_iff.1 hp
    obtain ⟨hb, hp⟩ := hp
    simp only [Bool.and_eq_true, decide_eq_true_eq] at hb
    refine .of _ _ hp ?_ .int
    have hlt : j.toNat < s.length := by omega
    have hget : (ByteArray.mk s.toArray)[j.toNat]? = some s[j.toNat] := by
      have : j.toNat < (ByteArray.mk s.toArray).size := by simpa [ByteArray.size] using hlt
      rw [getElem?_pos (ByteArray.mk s.toArray) j.toNat this]
      rfl
    simp [execOp, ho, hx.str_inv, hi.int_inv, Instr.index, run_underlying hu, asIntOf, hb.1, hget, hlt]
  · exact hp.elim

theorem sees_extract (he : ER c h w e a.tmps) {x : Operand} {i : Nat} (ho : o.op = .extract x i) (hp : aop P Γ (.extract (cOpd x) i) e h k kp) : Sees P c h w a o k := by
  simp only [aop, evK_eq] at hp
  have hx := he.ev x
  split at hp
  · rename_i l h1
    rw [h1] at hx
    obtain ⟨cs, hcs, hl, hc⟩ := hx.tup_inv
    rw [getL_eq] at hp
    split at hp
    · rename_i v hv
      have hlt : i < l.length := by
        rcases Nat.lt_or_ge i l.length with h | h
        · exact h
        · rw [List.getElem?_eq_none h] at hv; cases hv
      have hy : cs[i]? = some cs[i] := Array.getElem?_eq_getElem (by omega)
      refine .of v cs[i] hp ?_ (hc _ v _ hv hy)
      simp [execOp, ho, hcs, Instr.extract, hy]
    · exact hp.elim
  · exact hp.elim
end
end Ab
namespace Ab
set_option linter.unusedVariables false
set_option linter.unusedSimpArgs false
open Go
section
variable {P : Program} {Γ : CallR} {c : Cx} {h : Heap} {w : World} {e : Env} {a : Act} {o : Oper} {k kp : SV → Heap → Prop}

theorem oevK_inv (he : ER c h w e a.tmps) {d : Int} {x : Option Operand} {K : Int → Prop} (hp : oevK e d (x.map cOpd) K) :
    (x = none ∧ K d) ∨ ∃ y kk n, x = some y ∧ a.eval y = .int kk n ∧ K n := by
  cases x with
  | none => exact .inl ⟨rfl, hp⟩
  | some y =>
    simp only [Option.map_some, oevK, evK_eq] at hp
    have hy := he.ev y
    split at hp
    · rename_i kk n h1
      rw [h1] at hy
      exact .inr ⟨y, kk, n, rfl, hy.int_inv, hp⟩
    · exact hp.elim

theorem bound_run {kk : IntKind} {i : Int} {y : Nat} (code : BoundsCode) (h0 : 0 ≤ i) (h1 : i ≤ y) : (Instr.sliceBound (.int kk i) y code).run P w = .ok i.toNat w := by
  simp [Instr.sliceBound, asIntOf, h0, h1]

theorem bounds_run (he : ER c h w e a.tmps) (b : Bool) (len cap : Nat) {lo hi : Option Operand} {K : Int → Int → Prop} (hp : oevK e 0 (lo.map cOpd) fun l => oevK e len (hi.map cOpd) fun hh => K l hh) :
    ∃ l hh, K l hh ∧ (0 ≤ l → l ≤ hh → hh ≤ cap → (Instr.sliceBounds b len cap (lo.map a.eval) (hi.map a.eval) none).run P w = .ok (l.toNat, hh.toNat, cap) w) := by
  rcases oevK_inv he hp with ⟨rfl, hp1⟩ | ⟨y, kk, n, rfl, hy, hp1⟩
  · rcases oevK_inv he hp1 with ⟨rfl, hp2⟩ | ⟨y, kk, n, rfl, hy, hp2⟩
    · exact ⟨_, _, hp2, fun h0 h1 h2 => by simp [Instr.sliceBounds]⟩
    · exact ⟨_, _, hp2, fun h0 h1 h2 => by simp [Instr.sliceBounds, hy, bound_run _ h1 h2]⟩
  · rcases oevK_inv he hp1 with ⟨rfl, hp2⟩ | ⟨y2, kk2, n2, rfl, hy2, hp2⟩
    · exact ⟨_, _, hp2, fun h0 h1 h2 => by simp [Instr.sliceBounds, hy, bound_run _ h0 h1]⟩
    · refine ⟨_, _, hp2, fun h0 h1 h2 => ?_⟩
      simp [Instr.sliceBounds, hy, hy2, bound_run _ (Int.le_trans h0 h1) h2]
      exact (congrArg (fun r => Result.andThen r _) (bound_run (P := P) (w := w) .sliceB h0 (by omega))).trans (by simp)

theorem sees_sliceStr (he : ER c h w e a.tmps) {t : TypeId} {x : Operand} {lo hi : Option Operand} (ho : o.op = .slice t x lo hi none) (hu : P.underlying t = some .string)
    (hp : aop P Γ (.sliceStr (cOpd x) (lo.map cOpd) (hi.map cOpd)) e h k kp) : Sees P c h w a o k := by
  simp only [aop, evK_eq] at hp
  have hx := he.ev x
  split at hp
  · rename_i s h1
    rw [h1] at hx
    obtain ⟨l, hh, hp, hrun⟩ := bounds_run (P := P) (w := w) he false s.length s.length hp
    replace hp := asr_iff.1 hp
    obtain ⟨hb, hp⟩ := hp
    simp only [Bool.and_eq_true, decide_eq_true_eq] at hb
    obtain ⟨⟨h0, h1⟩, h2⟩ := hb
    refine .of _ _ hp ?_ .str
    have hsz : (ByteArray.mk s.toArray).size = s.length := by simp [ByteArray.size]
    have hex : (ByteArray.mk s.toArray).extract l.toNat hh.toNat = ByteArray.mk ((s.drop l.toNat).take (hh.toNat - l.toNat)).toArray := by
      apply ByteArray.ext
      apply Array.ext'
      simp [ByteArray.data_extract, List.extract_eq_take_drop]
    simp [execOp, ho, hx.str_inv, Instr.sliceAt, run_underlying hu, Instr.slice, hsz, hrun h0 h1 h2, hex]
  · exact hp.elim

theorem sees_slice (he : ER c h w e a.tmps) {t el : TypeId} {x : Operand} {lo hi : Option Operand} {i : TypeInfo} (ho : o.op = .slice t x lo hi none) (hu : P.underlying t = some (.slice el)) (hi' : P.info? el = some i)
    (hp : aop P Γ (.slice i.size (cOpd x) (lo.map cOpd) (hi.map cOpd)) e h k kp) : Sees P c h w a o k := by
  simp only [aop, evK_eq] at hp
  have hx := he.ev x
  have hrun : ∀ (ad : Option Addr) (len cap l hh : Nat), a.eval x = .slice ad len cap → (Instr.sliceBounds true len cap (lo.map a.eval) (hi.map a.eval) none).run P w = .ok (l, hh, cap) w →
      (execOp a.eval o).run P w = .ok (.value (.slice (if cap = l then ad else ad.map (·.add (l * i.size))) (hh - l) (cap - l))) w := by
    intro ad len cap l hh hx hr
    simp [execOp, ho, hx, Instr.sliceAt, run_underlying hu, Instr.slice, hr, sizeOf_run hi']
  split at hp
  · rename_i sz n get h1
    rw [h1] at hx
    replace hp := asr_iff.1 hp
    obtain ⟨hsz, hp⟩ := hp
    have hsz := Nat.eq_of_beq_eq_true hsz
    obtain ⟨ad, cap, hxe, hnc, hor⟩ := hx.lst_inv
    obtain ⟨l, hh, hp, hbr⟩ := bounds_run (P := P) (w := w) he true n cap hp
    replace hp := asr_iff.1 hp
    obtain ⟨hb, hp⟩ := hp
    simp only [Bool.and_eq_true, decide_eq_true_eq] at hb
    obtain ⟨⟨h0, h1⟩, h2⟩ := hb
    refine .of _ _ hp (hrun _ _ _ _ _ hxe (hbr h0 h1 (by omega))) ?_
    by_cases hz : hh.toNat - l.toNat = 0
    · rw [hz]
      exact .pure (.lst0 _ _ _ _)
    · rcases hor with rfl | ⟨b, off, C, ty, fz, rfl, hb, hw, hn, hc, hcell⟩
      · omega
      · rw [if_neg (by omega)]
        simp only [Option.map_some, add_eq]
        refine .pure (.lst sz _ _ b (off + l.toNat * i.size) _ C ty fz hb hw ?_ (by omega) (fun j hj => hc _ (by omega)) fun j j' v y hj hv hy => hcell (l.toNat + j) j' v y (by omega) hv ?_)
        · have e1 : (l.toNat + (hh.toNat - l.toNat)) * sz ≤ n * sz := Nat.mul_le_mul_right _ (by omega)
          rw [Nat.add_mul] at e1
          rw [← hsz]
          omega
        · rw [← hy, ← hsz, Nat.add_mul]
          congr 1
          omega
  · rename_i ii g sz off len cap hev
    rw [hev] at hx
    clear hev
    replace hp := asr_iff.1 hp
    obtain ⟨hsz, hp⟩ := hp
    have hsz := Nat.eq_of_beq_eq_true hsz
    obtain ⟨hp, sz', elems, sk, hob⟩ := liveK_inv hp
    obtain ⟨hsz', ad, cc, hxe, hlc, hcap, hor⟩ := hx.sl_inv hob rfl
    obtain ⟨l, hh, hp, hbr⟩ := bounds_run (P := P) (w := w) he true len cc hp
    replace hp := asr_iff.1 hp
    obtain ⟨hb, hp⟩ := hp
    simp only [Bool.and_eq_true, decide_eq_true_eq] at hb
    obtain ⟨h0, h1⟩ := hb
    have hfull : cap = none → l.toNat ≤ cc → ∃ ty n, w.shape? (c.β ii) = some (ty, n) ∧ (off + l.toNat) * sz + (cc - l.toNat) * sz = n := fun hcn hlc2 => by
      subst hcn
      obtain ⟨ty, n, h1, h2⟩ := hx.sl_full hob rfl hxe
      refine ⟨ty, n, h1, ?_⟩
      rw [← h2, ← Nat.add_mul, ← Nat.add_mul]
      congr 1
      omega
    have hmk : ∀ cap', (cap' = none → cap = none) → hh.toNat ≤ cc → (∀ k, cap' = some k → cc - l.toNat = k) → VR c h w (.sl ii g sz (off + l.toNat) (hh.toNat - l.toNat) cap') (.slice (if cc = l.toNat then some ad else (some ad).map (·.add (l.toNat * i.size))) (hh.toNat - l.toNat) (cc - l.toNat)) := by
      intro cap' hcn hle hk
      cases hx with
      | pure hx => cases hx
      | sl _ _ _ _ _ _ _ _ hi hg _ =>
      refine .sl _ _ _ _ _ _ _ ⟨_, _, _, rfl⟩ hi hg fun o' ho' hgo => ?_
      rw [hob] at ho'; cases ho'
      by_cases hz : cc = l.toNat
      · rw [if_pos hz]
        exact ⟨hsz', ad, _, rfl, by omega, hk, .inl (by omega), fun h => hfull (hcn h) (by omega)⟩
      · rw [if_neg hz]
        simp only [Option.map_some]
        refine ⟨hsz', _, _, rfl, by omega, hk, .inr ?_, fun h => hfull (hcn h) (by omega)⟩
        rcases hor with h0 | ⟨rfl, ty, n, hsh, hle'⟩
        · omega
        · refine ⟨by rw [add_eq, Nat.add_mul, hsz], ty, n, hsh, ?_⟩
          have e1 : (off + l.toNat) * sz + (cc - l.toNat) * sz = off * sz + cc * sz := by
            rw [← Nat.add_mul, ← Nat.add_mul]
            congr 1
            omega
          omega
    cases cap with
    | some cp =>
      replace hp := asr_iff.1 hp
      obtain ⟨hb2, hp⟩ := hp
      simp only [decide_eq_true_eq] at hb2
      have hcp := hcap cp rfl
      refine .of _ _ hp (hrun _ _ _ _ _ hxe (hbr h0 h1 (by omega))) (hmk _ (fun h => by cases h) (by omega) fun k hk => by cases hk; omega)
    | none =>
      replace hp := asr_iff.1 hp
      obtain ⟨hb2, hp⟩ := hp
      simp only [decide_eq_true_eq] at hb2
      refine .of _ _ hp (hrun _ _ _ _ _ hxe (hbr h0 h1 (by omega))) (hmk _ (fun _ => rfl) (by omega) fun k hk => by cases hk)
  · rename_i h1
    rw [h1] at hx
    obtain ⟨l, hh, hp, hbr⟩ := bounds_run (P := P) (w := w) he true 0 0 hp
    replace hp := asr_iff.1 hp
    obtain ⟨hb, hp⟩ := hp
    simp only [Bool.and_eq_true, decide_eq_true_eq] at hb
    obtain ⟨h0, h1⟩ := hb
    subst h0; subst h1
    refine .of _ _ hp (hrun _ _ _ _ _ hx.nils_inv (hbr (by omega) (by omega) (by omega))) ?_
    exact .pure .nils
  · exact hp.elim

theorem sees_indexAddr (he : ER c h w e a.tmps) {t el : TypeId} {x i : Operand} {ti : TypeInfo} (ho : o.op = .indexAddr t x i) (hu : P.underlying t = some (.slice el)) (hti : P.info? el = some ti)
    (hp : aop P Γ (.indexAddr ti.size (cOpd x) (cOpd i)) e h k kp) : Sees P c h w a o k := by
  simp only [aop, evK_eq] at hp
  have hx := he.ev x
  have hi := he.ev i
  have hrun : ∀ b off len cap kk (j : Int), a.eval x = .slice (some ⟨b, off, none⟩) len cap → a.eval i = .int kk j → 0 ≤ j → j < len →
      (execOp a.eval o).run P w = .ok (.value (.pointer (some ⟨b, off + j.toNat * ti.size, none⟩))) w := by
    intro b off len cap kk j hx hi h0 h1
    simp [execOp, ho, hx, hi, Instr.indexAt, asIntOf, run_underlying hu, h0, h1, sizeOf_run hti, add_eq]
  split at hp
  · rename_i sz n get kk j h1 h2
    rw [h1] at hx; rw [h2] at hi
    replace hp := asr_iff.1 hp
    obtain ⟨hsz, hp⟩ := hp
    have hsz := Nat.eq_of_beq_eq_true hsz
    replace hp := asr_iff.1 hp
    obtain ⟨hb, hp⟩ := hp
    simp only [Bool.and_eq_true, decide_eq_true_eq] at hb
    obtain ⟨ad, cap, hxe, hnc, hor⟩ := hx.lst_inv
    rcases hor with rfl | ⟨b, off, C, ty, fz, rfl, hbI, hw, hn, hc, hcell⟩
    · omega
    · refine .of _ _ hp (hrun _ _ _ _ _ _ hxe hi.int_inv hb.1 hb.2) ?_
      have hj : j.toNat < n := by omega
      have := VP.ipt (w := w) (get j.toNat) 0 b (off + j.toNat * sz) C ty fz hbI hw (by
        rw [hc _ hj]
        have e1 : (j.toNat + 1) * sz ≤ n * sz := Nat.mul_le_mul_right _ hj
        rw [Nat.succ_mul] at e1
        omega) fun j' u y hu hy => hcell j.toNat j' u y hj hu hy
      rw [← hsz]
      exact .pure this
  · rename_i ii g sz off len cap kk j h1 h2
    rw [h1] at hx; rw [h2] at hi
    replace hp := asr_iff.1 hp
    obtain ⟨hsz, hp⟩ := hp
    have hsz := Nat.eq_of_beq_eq_true hsz
    obtain ⟨hp, sz', elems, sk, hob⟩ := liveK_inv hp
    replace hp := asr_iff.1 hp
    obtain ⟨hb, hp⟩ := hp
    simp only [Bool.and_eq_true, decide_eq_true_eq] at hb
    obtain ⟨hsz', ad, cc, hxe, hlc, hcap, hor⟩ := hx.sl_inv hob rfl
    rcases hor with h0 | ⟨rfl, ty, n, hsh, hle⟩
    · omega
    · refine .of _ _ hp (hrun _ _ _ _ _ _ hxe hi.int_inv hb.1 hb.2) ?_
      cases hx with
      | pure hx => cases hx
      | sl _ _ _ _ _ _ _ _ hii hg _ =>
      refine .ref _ _ _ _ _ ⟨_, rfl⟩ hii hg fun o' ho' hgo => ?_
      rw [hob] at ho'; cases ho'
      simp only [AObj.sz] at hsz' ⊢
      rw [hsz', ← hsz, Nat.add_mul]
      rfl
  · exact hp.elim

theorem sees_indexArr (hr : Rep c h w) (he : ER c h w e a.tmps) {t el : TypeId} {n : Nat} {x i : Operand} {ti : TypeInfo} (ho : o.op = .indexAddr t x i) (hu : P.underlying t = some (.array n el)) (hti : P.info? el = some ti)
    (hp : aop P Γ (.indexArr n ti.size (cOpd x) (cOpd i)) e h k kp) : Sees P c h w a o k := by
  simp only [aop, evK_eq] at hp
  have hx := he.ev x
  have hi := he.ev i
  have hrun : ∀ b off kk (j : Int), a.eval x = .pointer (some ⟨b, off, none⟩) → a.eval i = .int kk j → 0 ≤ j → j < n →
      (execOp a.eval o).run P w = .ok (.value (.pointer (some ⟨b, off + j.toNat * ti.size, none⟩))) w := by
    intro b off kk j hx hi h0 h1
    simp [execOp, ho, hx, hi, Instr.indexAt, asIntOf, Instr.sureAddr, run_underlying hu, h0, h1, sizeOf_run hti, add_eq]
  split at hp
  · rename_i ii g idx sub _ jj h1 h2
    rw [h1] at hx; rw [h2] at hi
    replace hp := asr_iff.1 hp
    obtain ⟨hb, hp⟩ := hp
    simp only [Bool.and_eq_true, decide_eq_true_eq] at hb
    obtain ⟨m, hl⟩ := h
    simp only [idxK, lookO_eq] at hp
    split at hp
    · rename_i ob hob
      split at hp
      · rename_i g' sz' elems sk
        replace hp := asr_iff.1 hp
        obtain ⟨hg, hp⟩ := hp
        have hg := Nat.eq_of_beq_eq_true hg
        subst hg
        have hq := hx.ref_inv (o := .vec g' sz' elems sk) hob rfl
        simp only [AObj.sz] at hq
        have hii : ii < m := by
          cases hx with
          | pure hx => cases hx
          | ref _ _ _ _ _ _ hii _ _ => exact hii
        have hgg : ∀ o, (Heap.mk m hl).obj ii = some o → g' ≤ o.gen := by
          cases hx with
          | pure hx => cases hx
          | ref _ _ _ _ _ _ _ hgg _ => exact hgg
        rcases brE hp with ⟨hs, hp⟩ | ⟨hs, hp⟩
        · have hs := Nat.eq_of_beq_eq_true hs
          refine .of _ _ hp (hrun _ _ _ _ hq hi.int_inv hb.1 hb.2) ?_
          refine .ref _ _ _ _ _ ⟨_, rfl⟩ hii hgg fun o' ho' _ => ?_
          have e : (Heap.mk m hl).obj ii = some (.vec g' sz' elems sk) := hob
          rw [e] at ho'; cases ho'
          simp only [AObj.sz]
          rw [hs, Nat.add_mul, Nat.add_right_comm]
        · refine .of _ _ hp (hrun _ _ _ _ hq hi.int_inv hb.1 hb.2) ?_
          refine .ref _ _ _ _ _ ⟨_, rfl⟩ hii hgg fun o' ho' _ => ?_
          have e : (Heap.mk m hl).obj ii = some (.vec g' sz' elems sk) := hob
          rw [e] at ho'; cases ho'
          simp only [AObj.sz]
          rw [Nat.add_assoc]
      · exact hp.elim
    · exact hp.elim
  · rename_i g _ jj h1 h2
    rw [h1] at hx; rw [h2] at hi
    replace hp := asr_iff.1 hp
    obtain ⟨hb, hp⟩ := hp
    simp only [Bool.and_eq_true, decide_eq_true_eq] at hb
    split at hp
    · rename_i v hv
      obtain ⟨hI, C, ty, fz, hw, hn, hc⟩ := hr.glob.1 g v hv
      refine .of _ _ hp (hrun _ _ _ _ hx.glob_inv hi.int_inv hb.1 hb.2) ?_
      have := VP.ipt (Im := c.Im) (w := w) v (0 + jj.toNat * ti.size) g 0 C ty fz hI hw (by omega) (fun j u x hu hx => hc j u x hu (by rw [Nat.zero_add] at hx; exact hx))
      simp only [Nat.zero_add] at this ⊢
      exact .pure this
    · exact hp.elim
  · rename_i h1 h2
    rw [h1] at hx; rw [h2] at hi
    replace hp := asr_iff.1 hp
    obtain ⟨hb, hp⟩ := hp
    simp only [Bool.and_eq_true, decide_eq_true_eq] at hb
    obtain ⟨b, q, C, ty, fz, hq, hbI, hw, hn, hc⟩ := hx.ipt_inv
    refine .of _ _ hp (hrun _ _ _ _ hq hi.int_inv hb.1 hb.2) ?_
    rw [Nat.add_assoc]
    exact .pure (.ipt _ _ _ _ _ _ _ hbI hw hn hc)
  · exact hp.elim

theorem sees_len (he : ER c h w e a.tmps) {cl : Call} {x : Operand} {t : TypeId} {b : Bool} (ho : o.op = .call cl) (hcl : cl.callee = .builtin .len) (hargs : cl.args.toList = [x]) (htys : cl.argTypes.toList = [t])
    (hu : match b with | true => P.underlying t = some .string | false => ∃ el, P.underlying t = some (.slice el))
    (hp : aop P Γ (.len b (cOpd x)) e h k kp) : Sees P c h w a o k := by
  simp only [aop, evK_eq] at hp
  have hx := he.ev x
  have hargs' : cl.args = #[x] := by simpa using congrArg List.toArray hargs
  have htys' : cl.argTypes = #[t] := by simpa using congrArg List.toArray htys
  have hl : b = false → ∀ ad n m, a.eval x = .slice ad n m → (execOp a.eval o).run P w = .ok (.value (.int .i64 n)) w := by
    intro hb ad n m hs
    subst hb
    obtain ⟨el, hel⟩ := hu
    simp [execOp, ho, resolve, hcl, hargs', htys', invoke, builtin, Builtin.len_, run_underlying hel, hs, goInt]
  split at hp
  · rename_i s h1
    rw [h1] at hx
    refine .of _ _ hp ?_ .int
    have hsz : (ByteArray.mk s.toArray).size = s.length := by simp [ByteArray.size]
    simp [execOp, ho, resolve, hcl, hargs', htys', invoke, builtin, Builtin.len_, run_underlying hu, hx.str_inv, goInt, hsz]
  · rename_i h1
    rw [h1] at hx
    obtain ⟨ad, cap, hxe, _, _⟩ := hx.lst_inv
    exact .of _ _ hp (hl rfl _ _ _ hxe) .int
  · rename_i h1
    rw [h1] at hx
    obtain ⟨hp, ob, hob, hg⟩ := liveF_inv hp
    obtain ⟨_, ad, cc, hxe, _⟩ := hx.sl_inv hob hg
    exact .of _ _ hp (hl rfl _ _ _ hxe) .int
  · rename_i h1
    rw [h1] at hx
    exact .of _ _ hp (hl rfl _ _ _ hx.nils_inv) .int
  · exact hp.elim

theorem sees_mm (he : ER c h w e a.tmps) {cl : Call} {x y : Operand} {m : Bool} (ho : o.op = .call cl) (hcl : cl.callee = .builtin (if m then .max else .min)) (hargs : cl.args.toList = [x, y])
    (hp : aop P Γ (.mm m (cOpd x) (cOpd y)) e h k kp) : Sees P c h w a o k := by
  simp only [aop, evK_eq] at hp
  have hx := he.ev x
  have hy := he.ev y
  have hargs' : cl.args = #[x, y] := by simpa using congrArg List.toArray hargs
  split at hp
  · rename_i kk p k' q h1 h2
    rw [h1] at hx; rw [h2] at hy
    cases m
    · refine .of _ _ hp ?_ .int
      simp [execOp, ho, resolve, hcl, hargs', invoke, builtin, Builtin.min_, Builtin.min2, hx.int_inv, hy.int_inv]
    · refine .of _ _ hp ?_ .int
      simp [execOp, ho, resolve, hcl, hargs', invoke, builtin, Builtin.max_, Builtin.max2, hx.int_inv, hy.int_inv]
  · exact hp.elim
end
end Ab
namespace Ab
set_option linter.unusedVariables false
set_option linter.unusedSimpArgs false
open Go
section
variable {P : Program} {Γ : CallR} {c : Cx} {h : Heap} {w : World} {e : Env} {a : Act} {o : Oper} {k kp : SV → Heap → Prop}

theorem OR.mono {c' : Cx} {h' : Heap} {w' : World} (hr : Rep c h w) (hx : Ext c h w c' h' w') {b : Nat} {ob : AObj} (hb : w'.heap[b]? = w.heap[b]?) (ho : OR c h w b ob) : OR c' h' w' b ob := by
  cases ho with
  | vec g sz elems slack C ty fz hw hle heq hty hc hf hcell => exact .vec g sz elems slack C ty fz (hb.trans hw) hle heq hty hc hf fun i j e v x h1 h2 h3 => (hcell i j e v x h1 h2 h3).mono hr hx
  | iter s pos hw => exact .iter s pos (hb.trans hw)
  | map es cl hw hs => exact .map es cl (hb.trans hw) hs
  | miter m since seen stepped r hw hm => exact .miter m since seen stepped r (hb.trans hw) (hm.mono hr hx)
  | fro g ty xs C fz hw hle hc => exact .fro g ty xs C fz (hb.trans hw) hle hc

def Cx.push (c : Cx) (n b : Nat) : Cx := ⟨fun i => if i = n then b else c.β i, c.Im⟩

theorem obj_push (n : Nat) (l : List (Nat × AObj)) (ob : AObj) (i : Nat) : (Heap.mk (n + 1) ((n, ob) :: l)).obj i = if n = i then some ob else objL l i := rfl

theorem heap_push (w : World) (ob : Obj) (b : Nat) (hb : b < w.heap.size) : (w.alloc ob).heap[b]? = w.heap[b]? := by
  show (w.heap.push ob)[b]? = _
  rw [Array.getElem?_push, if_neg (by omega)]
theorem heap_new (w : World) (ob : Obj) : (w.alloc ob).heap[w.heap.size]? = some ob := by
  show (w.heap.push ob)[w.heap.size]? = _
  simp
theorem heap_size (w : World) (ob : Obj) : (w.alloc ob).heap.size = w.heap.size + 1 := by
  show (w.heap.push ob).size = _
  simp

theorem ext_push {n : Nat} {l : List (Nat × AObj)} (hr : Rep c ⟨n, l⟩ w) (ob : AObj) (cb : Obj) : Ext c ⟨n, l⟩ w (c.push n w.heap.size) ⟨n + 1, (n, ob) :: l⟩ (w.alloc cb) where
  os := rfl
  tape := rfl
  output := rfl
  size := by rw [heap_size]; omega
  frame b hb _ := heap_push w cb b hb
  shape b hb := by simp only [World.shape?, heap_push w cb b hb]
  im _ hb := hb
  im' _ hb := .inl hb
  nxt := Nat.le_succ _
  old i o' hi ho' := by
    simp only at hi
    rw [obj_push, if_neg (by omega)] at ho'
    exact ⟨o', ho', Nat.le_refl _, rfl, fun _ => by simp [Cx.push]; omega⟩
  new i o' ho' := by
    rw [obj_push] at ho'
    by_cases hi : n = i
    · subst hi; left; simp [Cx.push]
    · rw [if_neg hi] at ho'
      exact .inr ⟨o', ho', by simp [Cx.push]; omega⟩

theorem rep_push {n : Nat} {l : List (Nat × AObj)} (hr : Rep c ⟨n, l⟩ w) (ob : AObj) (cb : Obj) (ho : OR (c.push n w.heap.size) ⟨n + 1, (n, ob) :: l⟩ (w.alloc cb) w.heap.size ob) : Rep (c.push n w.heap.size) ⟨n + 1, (n, ob) :: l⟩ (w.alloc cb) := by
  have hx := ext_push hr ob cb
  have hlt : ∀ i o, objL l i = some o → i < n := fun i o ho => hr.lt i o ho
  refine ⟨fun i o' ho' => ?_, fun i o' ho' => ?_, fun i j o' p' ho' hp' he => ?_, fun i o' ho' => ?_, fun b hb => ?_, hr.globx hx⟩
  · rw [obj_push] at ho'
    by_cases hi : n = i
    · subst hi; exact Nat.lt_succ_self _
    · rw [if_neg hi] at ho'; exact Nat.lt_succ_of_lt (hlt i o' ho')
  · rw [obj_push] at ho'
    by_cases hi : n = i
    · subst hi
      rw [if_pos rfl] at ho'; cases ho'
      simpa [Cx.push] using ho
    · rw [if_neg hi] at ho'
      have hor := hr.obj i o' ho'
      have hβ : (c.push n w.heap.size).β i = c.β i := by simp [Cx.push]; omega
      rw [hβ]
      exact hor.mono hr hx (heap_push w cb _ hor.lt)
  · rw [obj_push] at ho' hp'
    simp only [Cx.push] at he
    by_cases hi : n = i
    · by_cases hj : n = j
      · omega
      · rw [if_neg hj] at hp'
        rw [if_pos hi.symm, if_neg (fun e => hj e.symm)] at he
        have := (hr.obj j p' hp').lt
        omega
    · rw [if_neg hi] at ho'
      by_cases hj : n = j
      · rw [if_neg (fun e => hi e.symm), if_pos hj.symm] at he
        have := (hr.obj i o' ho').lt
        omega
      · rw [if_neg hj] at hp'
        rw [if_neg (fun e => hi e.symm), if_neg (fun e => hj e.symm)] at he
        exact hr.inj i j o' p' ho' hp' he
  · rw [obj_push] at ho'
    by_cases hi : n = i
    · subst hi
      simp only [Cx.push, if_pos]
      intro hb
      have := hr.im _ hb
      omega
    · rw [if_neg hi] at ho'
      simp only [Cx.push, if_neg (fun e => hi (Eq.symm e))]
      exact hr.apart i o' ho'
  · rw [heap_size]
    have := hr.im b hb
    omega

/-- The operation comes to this value, and memory to this. -/
def Does (P : Program) (c : Cx) (h : Heap) (w : World) (a : Act) (o : Oper) (k : SV → Heap → Prop) : Prop :=
  ∃ v x h' c' w', k v h' ∧ ((execOp a.eval o).run P w = .ok (.value x) w' ∨ ((execOp a.eval o).run P w = .ok .skip w' ∧ x = undef)) ∧ Rep c' h' w' ∧ Ext c h w c' h' w' ∧ VR c' h' w' v x

theorem Sees.does (hr : Rep c h w) (hs : Sees P c h w a o k) : Does P c h w a o k := by
  obtain ⟨v, x, hk, hrun, hv⟩ := hs
  exact ⟨v, x, h, c, w, hk, .inl hrun, hr, .refl, hv⟩

/-- A new row of cells, made and named. -/
theorem push_vec {n : Nat} {l : List (Nat × AObj)} (hr : Rep c ⟨n, l⟩ w) (sz : Nat) (elems : List SV) (C : Array Value) (ty : TypeId) (heq : elems.length * sz = C.size) (hc : ∀ v ∈ elems, v.cells.length = sz)
    (hcell : ∀ (i j : Nat) (e v : SV) (x : Value), elems[i]? = some e → e.cells[j]? = some v → C[i * sz + j]? = some x → VR c ⟨n, l⟩ w v x) :
    Rep (c.push n w.heap.size) ⟨n + 1, (n, .vec 0 sz elems ⟨false, some ty⟩) :: l⟩ (w.alloc (.cells C ty)) :=
  rep_push hr _ _ (.vec 0 sz elems ⟨false, some ty⟩ C ty (0, 0) (heap_new _ _) (by omega) (fun _ => heq) (fun _ h => (Option.some.inj h).symm) hc (by simp) fun i j e v x h1 h2 h3 => (hcell i j e v x h1 h2 h3).mono hr (ext_push hr _ _))

theorem ref_new {n : Nat} {l : List (Nat × AObj)} {sz : Nat} {elems : List SV} {sk : Sk} {w' : World} {b : Nat} : VR (c.push n b) ⟨n + 1, (n, .vec 0 sz elems sk) :: l⟩ w' (.ref n 0 0 0) (.pointer (some ⟨b, 0, none⟩)) :=
  .ref _ _ _ _ _ ⟨_, rfl⟩ (Nat.lt_succ_self _) (fun _ _ => Nat.zero_le _) fun o' ho' _ => by simp [Cx.push]
theorem sl_new {n : Nat} {l : List (Nat × AObj)} {sz len cap : Nat} {elems : List SV} {sk : Sk} {w' : World} {b : Nat} {C : Array Value} {ty : TypeId} {fz : Nat × Nat} (hb : w'.heap[b]? = some (.cells C ty fz)) (hlc : len ≤ cap) (hC : cap * sz ≤ C.size) :
    VR (c.push n b) ⟨n + 1, (n, .vec 0 sz elems sk) :: l⟩ w' (.sl n 0 sz 0 len (some cap)) (.slice (some ⟨b, 0, none⟩) len cap) :=
  .sl _ _ _ _ _ _ _ ⟨_, _, _, rfl⟩ (Nat.lt_succ_self _) (fun _ _ => Nat.zero_le _) fun o' ho' _ => by
    rw [obj_push, if_pos rfl] at ho'; cases ho'
    refine ⟨rfl, _, _, rfl, hlc, fun k hk => (Option.some.inj hk), .inr ⟨by simp [Cx.push], ty, C.size, by simp [Cx.push, World.shape?, hb], by omega⟩, fun h => by cases h⟩

theorem vcells {v : SV} {x : Value} (hv : VR c h w v x) (hu : v ≠ .undef) : x.cells.size = v.cells.length ∧ ∀ (j : Nat) (u : SV) (y : Value), v.cells[j]? = some u → x.cells[j]? = some y → VR c h w u y := by
  by_cases hagg : ∃ l, v = .agg l
  · obtain ⟨l, rfl⟩ := hagg
    obtain ⟨cs, rfl, hl, hc⟩ := hv.agg_inv
    exact ⟨hl, hc⟩
  · have h1 : v.cells = [v] := by cases v <;> first | rfl | exact absurd ⟨_, rfl⟩ hagg
    rw [h1, hv.noAgg hu (fun l hl => hagg ⟨l, hl⟩)]
    refine ⟨rfl, fun j u y hu hy => ?_⟩
    cases j with
    | zero => simp at hu hy; subst hu; subst hy; exact hv
    | succ j => simp at hu

theorem does_boxed (hr : Rep c h w) {v : SV} {x : Value} {sz : Nat} {t : TypeId} (hv : VR c h w v x) (hrun : (execOp a.eval o).run P w = .ok (.value (.pointer (some ⟨w.heap.size, 0, none⟩))) (w.alloc (.cells x.cells t)))
    (hp : v.cellsK fun vs => asr (Nat.beq vs.length sz) (match h with | ⟨n, l⟩ => k (.ref n 0 0 0) ⟨n + 1, (n, .vec 0 sz [v] ⟨false, some t⟩) :: l⟩)) : Does P c h w a o k := by
  obtain ⟨hu, hp⟩ := cellsK_iff.1 hp
  replace hp := asr_iff.1 hp
  obtain ⟨hsz, hp⟩ := hp
  have hsz := Nat.eq_of_beq_eq_true hsz
  obtain ⟨n, l⟩ := h
  obtain ⟨h1, h2⟩ := vcells hv hu
  refine ⟨_, _, _, _, _, hp, .inl hrun, push_vec hr sz [v] x.cells t (by simp; omega) (fun u hu => ?_) (fun i j e u y he hu hy => ?_), ext_push hr _ _, ref_new⟩
  · simp only [List.mem_singleton] at hu; subst hu; exact hsz
  · cases i with
    | zero => simp at he; subst he; exact h2 j u y hu (by simpa using hy)
    | succ i => simp at he

theorem does_boxedR (hr : Rep c h w) {v : SV} {x : Value} {sz : Nat} {t : TypeId} (hv : VR c h w v x) (hrun : (execOp a.eval o).run P w = .ok (.value (.pointer (some ⟨w.heap.size, 0, none⟩))) (w.alloc (.cells x.cells t)))
    (hp : match (generalizing := false) v, h with
      | .agg cs, ⟨n, l⟩ => asr (allOne cs && Nat.beq cs.length sz) (k (.ref n 0 0 0) ⟨n + 1, (n, .vec 0 1 cs ⟨false, some t⟩) :: l⟩)
      | _, _ => False) : Does P c h w a o k := by
  split at hp
  · rename_i cs n l
    replace hp := asr_iff.1 hp
    obtain ⟨hc, hp⟩ := hp
    simp only [Bool.and_eq_true] at hc
    obtain ⟨hone, hlen⟩ := hc
    obtain ⟨C, rfl, h1, h2⟩ := hv.agg_inv
    have hcells : (Value.agg C).cells = C := rfl
    rw [hcells] at hrun
    have one : ∀ v ∈ cs, v.cells.length = 1 ∧ v.cells = [v] := by
      clear hlen hp h1 h2 hv hrun
      induction cs with
      | nil => intro v hv; cases hv
      | cons u r ih =>
        simp only [allOne, Bool.and_eq_true] at hone
        intro v hv
        rcases List.mem_cons.1 hv with rfl | hv
        · cases v <;> first | exact ⟨rfl, rfl⟩ | cases hone.1
        · exact ih hone.2 v hv
    refine ⟨_, _, _, _, _, hp, .inl hrun, push_vec hr 1 cs C t (by omega) (fun u hu => (one u hu).1) (fun i j e u y he hu hy => ?_), ext_push hr _ _, ref_new⟩
    have := (one e (List.mem_of_getElem? he)).2
    rw [this] at hu
    cases j with
    | zero => simp at hu; subst hu; exact h2 i e y he (by simpa using hy)
    | succ j => simp at hu
  · exact hp.elim
theorem does_boxR (hr : Rep c h w) (he : ER c h w e a.tmps) {t : TypeId} {x : Operand} {i : TypeInfo} (ho : o.op = .box t x) (_hi : P.info? t = some i) (hp : aop P Γ (.boxR t i.size (cOpd x)) e h k kp) : Does P c h w a o k := by
  simp only [aop, evK_eq] at hp
  exact does_boxedR hr (he.ev x) (t := t) (by simp [execOp, ho, Instr.box, newVar, newRow]) hp
theorem does_allocR (hr : Rep c h w) {t : TypeId} {i : TypeInfo} {z : Value} (ho : o.op = .alloc t) (hi : P.info? t = some i) (hz : i.zero = some z) (hp : aop P Γ (.boxR t i.size (.const (ofVal 4 z))) e h k kp) : Does P c h w a o k := by
  simp only [aop, AOpd.evK] at hp
  exact does_boxedR hr (x := z) (.pure (ofVal_vp 4 z)) (t := t) (by simp [execOp, ho, Instr.alloc, newVar, newRow, zero_run hi hz]) hp
theorem does_box (hr : Rep c h w) (he : ER c h w e a.tmps) {t : TypeId} {x : Operand} {i : TypeInfo} (ho : o.op = .box t x) (_hi : P.info? t = some i) (hp : aop P Γ (.box t i.size (cOpd x)) e h k kp) : Does P c h w a o k := by
  simp only [aop, evK_eq] at hp
  exact does_boxed hr (he.ev x) (t := t) (by simp [execOp, ho, Instr.box, newVar, newRow]) hp

theorem does_alloc (hr : Rep c h w) {t : TypeId} {i : TypeInfo} {z : Value} (ho : o.op = .alloc t) (hi : P.info? t = some i) (hz : i.zero = some z) (hp : aop P Γ (.box t i.size (.const (ofVal 4 z))) e h k kp) : Does P c h w a o k := by
  simp only [aop, AOpd.evK] at hp
  exact does_boxed hr (x := z) (.pure (ofVal_vp 4 z)) (t := t) (by simp [execOp, ho, Instr.alloc, newVar, newRow, zero_run hi hz]) hp

/-! Lists written in place. -/
def setAll : List SV → Nat → List SV → List SV
  | l, _, [] => l
  | l, i, v :: vs => setAll (l.set i v) (i + 1) vs
theorem setAll_length : ∀ (l : List SV) (i : Nat) (vs : List SV), (setAll l i vs).length = l.length
  | l, i, [] => rfl
  | l, i, v :: vs => by simp [setAll, setAll_length]
theorem setAll_get : ∀ (l : List SV) (i : Nat) (vs : List SV) (j : Nat), i + vs.length ≤ l.length → (setAll l i vs)[j]? = if i ≤ j ∧ j < i + vs.length then vs[j - i]? else l[j]?
  | l, i, [], j, _ => by simp [setAll]; omega
  | l, i, v :: vs, j, hl => by
    simp only [List.length_cons] at hl
    rw [setAll, setAll_get _ _ _ _ (by simp; omega)]
    simp only [List.length_cons, List.getElem?_set]
    by_cases h1 : j = i
    · subst h1
      rw [if_neg (by omega), if_pos (by omega)]
      have : j < l.length := by omega
      simp [this]
    · by_cases h2 : i + 1 ≤ j ∧ j < i + 1 + vs.length
      · rw [if_pos h2, if_pos (by omega)]
        have : j - i = (j - (i + 1)) + 1 := by omega
        rw [this]
        simp
      · rw [if_neg h2, if_neg (by omega), if_neg (by omega)]
theorem setL_iff {α : Type _} : ∀ {l : List α} {i : Nat} {v : α} {K : List α → Prop}, setL l i v K ↔ i < l.length ∧ K (l.set i v)
  | [], i, v, K => by simp [setL]
  | x :: r, 0, v, K => by simp [setL]
  | x :: r, i+1, v, K => by simp [setL, setL_iff]
theorem setRun_iff : ∀ {vs l : List SV} {i : Nat} {K : List SV → Prop}, setRun l i vs K ↔ (vs = [] ∨ i + vs.length ≤ l.length) ∧ K (setAll l i vs)
  | [], l, i, K => by simp [setRun, setAll]
  | v :: vs, l, i, K => by
    simp only [setRun, setL_iff, setRun_iff, setAll, List.length_set, List.length_cons]
    constructor
    · rintro ⟨h1, h2, h3⟩
      refine ⟨.inr ?_, h3⟩
      rcases h2 with rfl | h2
      · simp; omega
      · omega
    · rintro ⟨h1, h3⟩
      rcases h1 with h1 | h1
      · cases h1
      · exact ⟨by omega, .inr (by omega), h3⟩

theorem storeCells_run (P : Program) (b o : Nat) (ty : TypeId) (fz : Nat × Nat) : ∀ (vs : List Value) (i : Nat) (C : Array Value) (w : World), w.heap[b]? = some (.cells C ty fz) →
    (∀ k, k < C.size → ¬ (fz.1 ≤ k ∧ k < fz.2)) → (vs = [] ∨ o + i + vs.length ≤ C.size) → (∀ v ∈ vs, v.oneCell' = true) →
    ∃ w' C', (storeCells ⟨b, o, none⟩ vs i).run P w = .ok () w' ∧ w'.os = w.os ∧ w'.tape = w.tape ∧ w'.output = w.output ∧ w'.heap.size = w.heap.size ∧ (∀ b', b' ≠ b → w'.heap[b']? = w.heap[b']?) ∧
      w'.heap[b]? = some (.cells C' ty fz) ∧ C'.size = C.size ∧ ∀ k, C'[k]? = if o + i ≤ k ∧ k < o + i + vs.length then vs[k - (o + i)]? else C[k]?
  | [], i, C, w, hw, _, _, _ => ⟨w, C, rfl, rfl, rfl, rfl, rfl, fun _ _ => rfl, hw, rfl, fun k => by simp; omega⟩
  | v :: r, i, C, w, hw, hf, hl, h1 => by
    simp only [List.length_cons] at hl
    have hl : o + i + (r.length + 1) ≤ C.size := by rcases hl with h | h; · cases h
                                                    · exact h
    have hi : o + i < C.size := by omega
    have hcell : w.cell? ⟨b, o + i, none⟩ = some C[o + i] := by simp [World.cell?, hw, hi]
    have hfro : w.frozen? ⟨b, o + i, none⟩ = false := by
      have := hf (o + i) hi
      simp only [World.frozen?, hw, Bool.and_eq_false_iff, decide_eq_false_iff_not]
      omega
    have hblt : b < w.heap.size := by
      rcases Nat.lt_or_ge b w.heap.size with h | h
      · exact h
      · rw [Array.getElem?_eq_none h] at hw; cases hw
    have hset : (w.setCell ⟨b, o + i, none⟩ v).heap[b]? = some (.cells (C.setIfInBounds (o + i) v) ty fz) := by
      simp only [World.setCell, Array.getElem?_modify, if_true, hw, Option.map_some]
      rfl
    obtain ⟨w', C', hrun, e1, e2, e3, e4, e5, e6, e7, e8⟩ := storeCells_run P b o ty fz r (i + 1) (C.setIfInBounds (o + i) v) (w.setCell ⟨b, o + i, none⟩ v) hset (by simpa using hf) (.inr (by simp; omega)) (fun x hx => h1 x (by simp [hx]))
    refine ⟨w', C', ?_, e1, e2, e3, by rw [e4]; simp [World.setCell], fun b' hb' => (e5 b' hb').trans ?_, e6, by rw [e7]; simp, fun k => ?_⟩
    · simp only [storeCells, Sem.run_bind, add_eq, run_store P w _ v _ (h1 v (by simp)), hcell, hfro, Bool.false_eq_true, if_false, Result.andThen_ok]
      exact hrun
    · simp only [World.setCell, Array.getElem?_modify]
      rw [if_neg (fun e => hb' e.symm)]
    · rw [e8 k]
      simp only [List.length_cons, Array.getElem?_setIfInBounds]
      by_cases h2 : o + (i + 1) ≤ k ∧ k < o + (i + 1) + r.length
      · rw [if_pos h2, if_pos (by omega)]
        have : k - (o + i) = (k - (o + (i + 1))) + 1 := by omega
        rw [this]; simp
      · rw [if_neg h2]
        by_cases h3 : o + i = k
        · subst h3
          rw [if_pos rfl, if_pos hi, if_pos (by omega)]
          simp
        · rw [if_neg h3, if_neg (by omega)]

theorem VR.one {v : SV} {x : Value} (hv : VR c h w v x) (h1 : v.one = true) : x.oneCell' = true := by
  cases hv with
  | pure hv => cases hv <;> first | rfl | cases h1
  | ref i g idx sub x hx => obtain ⟨a, rfl⟩ := hx; rfl
  | sl i g sz off len cap x hx => obtain ⟨a, l, c, rfl⟩ := hx; rfl
  | mapv i g x hx => obtain ⟨r, rfl⟩ := hx; rfl
  | iface => rfl
  | agg => cases h1
  | tup => cases h1
  | func => rfl
theorem allOne_mem : ∀ {vs : List SV}, allOne vs = true → ∀ v ∈ vs, v.one = true
  | [], _, v, hv => by cases hv
  | x :: r, hall, v, hv => by
    simp only [allOne, Bool.and_eq_true] at hall
    rcases List.mem_cons.1 hv with rfl | hv
    · exact hall.1
    · exact allOne_mem hall.2 v hv

theorem ext_put {n : Nat} {l : List (Nat × AObj)} {i g sz : Nat} {elems elems' : List SV} {sk : Sk} {w' : World} (hr : Rep c ⟨n, l⟩ w) (ho : objL l i = some (.vec g sz elems sk))
    (e1 : w'.os = w.os) (e2 : w'.tape = w.tape) (e3 : w'.output = w.output) (e4 : w'.heap.size = w.heap.size) (e5 : ∀ b', b' ≠ c.β i → w'.heap[b']? = w.heap[b']?) (e6 : w'.shape? (c.β i) = w.shape? (c.β i)) :
    Ext c ⟨n, l⟩ w c ⟨n, putO l i (.vec g sz elems' sk)⟩ w' where
  os := e1
  tape := e2
  output := e3
  size := by omega
  frame b hb hn := e5 b (fun e => hn i _ ho e.symm)
  shape b hb := by
    by_cases h : b = c.β i
    · rw [h]; exact e6
    · simp only [World.shape?, e5 b h]
  im _ hb := hb
  im' _ hb := .inl hb
  nxt := Nat.le_refl _
  old j o' hj ho' := by
    simp only [Heap.obj, objL_put] at ho'
    by_cases h : j = i
    · subst h
      rw [if_pos rfl, ho] at ho'
      cases ho'
      exact ⟨_, ho, Nat.le_refl _, rfl, fun _ => rfl⟩
    · rw [if_neg h] at ho'
      exact ⟨o', ho', Nat.le_refl _, rfl, fun _ => rfl⟩
  new j o' ho' := by
    simp only [Heap.obj, objL_put] at ho'
    by_cases h : j = i
    · subst h; exact .inr ⟨_, ho, rfl⟩
    · rw [if_neg h] at ho'; exact .inr ⟨o', ho', rfl⟩

theorem rep_put {n : Nat} {l : List (Nat × AObj)} {i g sz : Nat} {elems elems' : List SV} {sk : Sk} {w' : World} {C' : Array Value} {ty : TypeId} {fz : Nat × Nat} (hr : Rep c ⟨n, l⟩ w) (ho : objL l i = some (.vec g sz elems sk))
    (hx : Ext c ⟨n, l⟩ w c ⟨n, putO l i (.vec g sz elems' sk)⟩ w') (e4 : w'.heap.size = w.heap.size) (e5 : ∀ b', b' ≠ c.β i → w'.heap[b']? = w.heap[b']?) (e6 : w'.heap[c.β i]? = some (.cells C' ty fz))
    (hle : elems'.length * sz ≤ C'.size) (heq : sk.slack = false → elems'.length * sz = C'.size) (hty : ∀ t, sk.ty = some t → t = ty) (hc : ∀ v ∈ elems', v.cells.length = sz) (hf : ∀ k, k < C'.size → ¬ (fz.1 ≤ k ∧ k < fz.2))
    (hcell : ∀ (p j : Nat) (e v : SV) (x : Value), elems'[p]? = some e → e.cells[j]? = some v → C'[p * sz + j]? = some x → VR c ⟨n, l⟩ w v x) : Rep c ⟨n, putO l i (.vec g sz elems' sk)⟩ w' := by
  have key : ∀ j o', (Heap.mk n (putO l i (.vec g sz elems' sk))).obj j = some o' → (j = i ∧ o' = .vec g sz elems' sk) ∨ (j ≠ i ∧ objL l j = some o') := by
    intro j o' ho'
    simp only [Heap.obj, objL_put] at ho'
    by_cases h : j = i
    · rw [if_pos h, ho] at ho'; cases ho'; exact .inl ⟨h, rfl⟩
    · rw [if_neg h] at ho'; exact .inr ⟨h, ho'⟩
  have key2 : ∀ j o', (Heap.mk n (putO l i (.vec g sz elems' sk))).obj j = some o' → ∃ o'', objL l j = some o'' := by
    intro j o' ho'
    rcases key j o' ho' with ⟨rfl, _⟩ | ⟨_, h⟩
    · exact ⟨_, ho⟩
    · exact ⟨_, h⟩
  refine ⟨fun j o' ho' => ?_, fun j o' ho' => ?_, fun j j' o' p' ho' hp' he => ?_, fun j o' ho' => ?_, fun b hb => ?_, hr.globx hx⟩
  · obtain ⟨o'', h⟩ := key2 j o' ho'; exact hr.lt j o'' h
  · rcases key j o' ho' with ⟨rfl, rfl⟩ | ⟨hj, h⟩
    · exact .vec g sz elems' sk C' ty fz e6 hle heq hty hc hf fun p j' e v x h1 h2 h3 => (hcell p j' e v x h1 h2 h3).mono hr hx
    · exact (hr.obj j o' h).mono hr hx (e5 _ fun he => hj (hr.inj j i _ _ h ho he))
  · obtain ⟨o'', h⟩ := key2 j o' ho'
    obtain ⟨p'', h'⟩ := key2 j' p' hp'
    exact hr.inj j j' _ _ h h' he
  · obtain ⟨o'', h⟩ := key2 j o' ho'; exact hr.apart j o'' h
  · rw [e4]; exact hr.im b hb

theorem storeV_inv {w0 v : SV} {sub : Nat} {K : SV → Prop} (hp : storeV w0 v sub K) (hu : v ≠ .undef) : ∃ w1, K w1 ∧ w1.cells = setAll w0.cells sub v.cells ∧ (v.cells = [] ∨ sub + v.cells.length ≤ w0.cells.length) := by
  unfold storeV at hp
  split at hp
  · obtain ⟨_, hp⟩ := cellsK_iff.1 hp
    obtain ⟨h1, hp⟩ := setRun_iff.1 hp
    exact ⟨_, hp, rfl, h1⟩
  · rename_i hna
    have h0 : w0.cells = [w0] := by cases w0 <;> first | rfl | exact absurd rfl (hna _)
    split at hp
    · exact hp.elim
    · rename_i hnv
      have h1 : v.cells = [v] := by cases v <;> first | rfl | exact absurd rfl (hnv _)
      cases sub with
      | zero => exact ⟨v, hp, by rw [h0, h1]; rfl, .inr (by rw [h0, h1]; simp)⟩
      | succ s => exact hp.elim

theorem does_store (hr : Rep c h w) (he : ER c h w e a.tmps) {t : TypeId} {x y : Operand} {i : TypeInfo} (ho : o.op = .store t x y) (hi : P.info? t = some i) (hp : aop P Γ (.store i.size (cOpd x) (cOpd y)) e h k kp) : Does P c h w a o k := by
  simp only [aop, evK_eq] at hp
  have hx := he.ev x
  have hy := he.ev y
  unfold storeP at hp
  obtain ⟨hu, hp⟩ := cellsK_iff.1 hp
  replace hp := asr_iff.1 hp
  obtain ⟨hsz, hp⟩ := hp
  simp only [Bool.and_eq_true] at hsz
  obtain ⟨hsz, hone⟩ := hsz
  have hsz := Nat.eq_of_beq_eq_true hsz
  obtain ⟨n, l⟩ := h
  split at hp
  · rename_i ii g idx sub m hl hev hhh
    cases hhh
    rw [hev] at hx
    simp only [lookO_eq] at hp
    split at hp
    · rename_i ob hob
      split at hp
      · rename_i g' sz elems sk
        replace hp := asr_iff.1 hp
        obtain ⟨hg, hp⟩ := hp
        have hg := Nat.eq_of_beq_eq_true hg
        rw [getL_eq] at hp
        split at hp
        · rename_i w0 hw0
          obtain ⟨w1, hp, hw1, hfit⟩ := storeV_inv hp hu
          obtain ⟨hidx, hp⟩ := setL_iff.1 hp
          rw [setO_eq] at hp
          have hxx := hx.ref_inv (o := .vec g' sz elems sk) hob hg
          simp only [AObj.sz] at hxx
          obtain ⟨hys, hyc⟩ := vcells hy hu
          cases hr.obj ii _ hob with
          | vec _ _ _ _ C ty fz hw hle heq hty hc hf hcell =>
            have hw0len : w0.cells.length = sz := hc w0 (List.mem_of_getElem? hw0)
            have e0 : (idx + 1) * sz ≤ elems.length * sz := Nat.mul_le_mul_right _ hidx
            rw [Nat.succ_mul] at e0
            have hrunL := storeCells_run P (c.β ii) (idx * sz + sub) ty fz (a.eval y).cells.toList 0 C w hw hf (by
              rcases hfit with h | h
              · left; apply List.eq_nil_of_length_eq_zero; simp [hys, h]
              · right; simp [hys]; omega) (fun v hv => by
              obtain ⟨j, hj⟩ := List.mem_iff_getElem?.1 hv
              have hj' : (a.eval y).cells[j]? = some v := by simpa using hj
              have hlt : j < ((cOpd y).ev e).cells.length := by
                rw [← hys]
                rcases Nat.lt_or_ge j (a.eval y).cells.size with h | h
                · exact h
                · rw [Array.getElem?_eq_none h] at hj'; cases hj'
              exact (hyc j _ v (List.getElem?_eq_getElem hlt) hj').one (allOne_mem hone _ (List.getElem_mem hlt)))
            obtain ⟨w', C', hrun, e1, e2, e3, e4, e5, e6, e7, e8⟩ := hrunL
            have hshape : w'.shape? (c.β ii) = w.shape? (c.β ii) := by simp only [World.shape?, e6, hw, e7]
            have hxx' := ext_put (elems' := elems.set idx w1) hr hob e1 e2 e3 e4 e5 hshape
            refine ⟨_, undef, _, c, w', hp, .inr ⟨?_, rfl⟩, rep_put hr hob hxx' e4 e5 e6 (by simp; omega) (fun hs => by simp [e7, heq hs]) hty (fun v hv => ?_) (by rw [e7]; exact hf) (fun p j ee v z hpe hv hz => ?_), hxx', .pure (.tup _ _ rfl fun i v x hv => by simp at hv)⟩
            · simp only [execOp, ho, hxx, Instr.storeAt, Instr.sureAddr, storeVar, Sem.run_bind, Sem.run_pure, Result.andThen_ok, sizeOf_run hi]
              have : ¬ (a.eval y).cells.size ≠ i.size := by omega
              simp only [this, if_false, hrun, Result.andThen_ok]
            · rcases List.mem_or_eq_of_mem_set hv with hv | rfl
              · exact hc v hv
              · rw [hw1, setAll_length]; exact hw0len
            · rw [e8] at hz
              simp only [Nat.add_zero, Array.length_toList] at hz
              rw [List.getElem?_set] at hpe
              by_cases hpi : idx = p
              · subst hpi
                rw [if_pos rfl, if_pos hidx] at hpe
                cases hpe
                rw [hw1] at hv
                by_cases hvs : ((cOpd y).ev e).cells = []
                · rw [hvs] at hv
                  have hzero : (a.eval y).cells.size = 0 := by rw [hys, hvs]; rfl
                  rw [if_neg (by omega)] at hz
                  exact hcell idx j w0 v z hw0 hv hz
                · have hfit' : sub + ((cOpd y).ev e).cells.length ≤ w0.cells.length := hfit.resolve_left hvs
                  rw [setAll_get _ _ _ _ hfit'] at hv
                  by_cases hin : sub ≤ j ∧ j < sub + ((cOpd y).ev e).cells.length
                  · rw [if_pos hin] at hv
                    rw [if_pos (by omega)] at hz
                    have : idx * sz + j - (idx * sz + sub) = j - sub := by omega
                    rw [this] at hz
                    exact hyc (j - sub) v z hv (by simpa using hz)
                  · rw [if_neg hin] at hv
                    rw [if_neg (by omega)] at hz
                    exact hcell idx j w0 v z hw0 hv hz
              · rw [if_neg hpi] at hpe
                have hjlt : j < sz := by
                  have := hc ee (List.mem_of_getElem? hpe)
                  rcases Nat.lt_or_ge j ee.cells.length with h | h
                  · omega
                  · rw [List.getElem?_eq_none h] at hv; cases hv
                have hout : ¬ (idx * sz + sub ≤ p * sz + j ∧ p * sz + j < idx * sz + sub + (a.eval y).cells.size) := by
                  intro ⟨h1, h2⟩
                  have hfit' : sub + ((cOpd y).ev e).cells.length ≤ sz := by
                    rcases hfit with h | h
                    · rw [h] at hys
                      simp only [List.length_nil] at hys
                      omega
                    · omega
                  rcases Nat.lt_or_gt_of_ne hpi with hlt | hlt
                  · have : (idx + 1) * sz ≤ p * sz := Nat.mul_le_mul_right _ hlt
                    rw [Nat.succ_mul] at this
                    omega
                  · have : (p + 1) * sz ≤ idx * sz := Nat.mul_le_mul_right _ hlt
                    rw [Nat.succ_mul] at this
                    omega
                rw [if_neg hout] at hz
                exact hcell p j ee v z hpe hv hz
        · exact hp.elim
      · exact hp.elim
    · exact hp.elim
  · exact hp.elim
end
end Ab
