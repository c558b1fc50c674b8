/- Blocks that are written no more: before a call they become plain values, for good or for the time of the call. -/
import Derived.Test.YtboinbjiemmggaaDoorAbG
namespace Ab
set_option linter.unusedVariables false
set_option linter.unusedSimpArgs false
open Go

def offK (S : Nat → Bool) : List (Nat × AObj) → (List (Nat × AObj) → Prop) → Prop
  | [], k => k []
  | (i, o) :: r, k => @Bool.rec (fun _ => Prop) (offK S r fun r' => k ((i, o) :: r')) (offK S r k) (S i)
def offL (S : Nat → Bool) : List (Nat × AObj) → List (Nat × AObj)
  | [] => []
  | (i, o) :: r => bif S i then offL S r else (i, o) :: offL S r
def onL (S : Nat → Bool) : List (Nat × AObj) → List (Nat × AObj)
  | [] => []
  | (i, o) :: r => bif S i then (i, o) :: onL S r else onL S r
theorem offK_eq (S : Nat → Bool) : ∀ (l : List (Nat × AObj)) (k : List (Nat × AObj) → Prop), offK S l k = k (offL S l)
  | [], k => rfl
  | (i, o) :: r, k => by
    unfold offK offL
    cases S i
    · exact offK_eq S r _
    · exact offK_eq S r _
theorem objL_off (S : Nat → Bool) : ∀ (l : List (Nat × AObj)) (i : Nat), objL (offL S l) i = if S i = true then none else objL l i
  | [], i => by simp [offL, objL]
  | (j, o) :: r, i => by
    unfold offL
    cases hj : S j
    · simp only [cond_false]
      unfold objL
      by_cases h : j = i
      · subst h; rw [if_pos rfl, if_pos rfl, hj]; rfl
      · rw [if_neg h, if_neg h]; exact objL_off S r i
    · simp only [cond_true]
      rw [objL_off S r i]
      conv => rhs; unfold objL
      by_cases h : j = i
      · subst h; rw [hj]; rfl
      · rw [if_neg h]
theorem objL_on (S : Nat → Bool) : ∀ (l : List (Nat × AObj)) (i : Nat), objL (onL S l) i = if S i = true then objL l i else none
  | [], i => by simp [onL, objL]
  | (j, o) :: r, i => by
    unfold onL
    cases hj : S j
    · simp only [cond_false]
      rw [objL_on S r i]
      conv => rhs; unfold objL
      by_cases h : j = i
      · subst h; rw [hj]; rfl
      · rw [if_neg h]
    · simp only [cond_true]
      unfold objL
      by_cases h : j = i
      · subst h; rw [if_pos rfl, if_pos rfl, hj]; rfl
      · rw [if_neg h, if_neg h]; exact objL_on S r i

inductive HardL (A : Heap) : List SV → List SV → Prop
  | nil : HardL A [] []
  | cons {v v' : SV} {l l' : List SV} (h : Hard A v v') (r : HardL A l l') : HardL A (v :: l) (v' :: l')
theorem HardL.len {A : Heap} {l l' : List SV} (h : HardL A l l') : l.length = l'.length := by induction h <;> simp_all
theorem HardL.at_ {A : Heap} {l l' : List SV} (h : HardL A l l') : ∀ {i : Nat} {v : SV}, l'[i]? = some v → ∃ u, l[i]? = some u ∧ Hard A u v := by
  induction h with
  | nil => intro i v hv; simp at hv
  | cons h _ ih =>
    intro i v hv
    cases i with
    | zero => simp at hv; subst hv; exact ⟨_, rfl, h⟩
    | succ i => simp at hv; obtain ⟨u, hu, hh⟩ := ih hv; exact ⟨u, by simpa using hu, hh⟩

section
variable {c : Cx} {h : Heap} {w : World} (S : Nat → Bool)
def frz (c : Cx) (h : Heap) : Cx := ⟨c.β, fun b => c.Im b ∨ ∃ i o, h.obj i = some o ∧ S i = true ∧ c.β i = b⟩

theorem off_sub {i : Nat} {o : AObj} (ho : (Heap.mk h.nxt (offL S h.l)).obj i = some o) : h.obj i = some o ∧ S i = false := by
  unfold Heap.obj at ho ⊢
  rw [objL_off] at ho
  cases hs : S i
  · rw [hs] at ho; exact ⟨ho, rfl⟩
  · rw [hs] at ho; cases ho
theorem on_sub {i : Nat} {o : AObj} (ho : (Heap.mk h.nxt (onL S h.l)).obj i = some o) : h.obj i = some o ∧ S i = true := by
  unfold Heap.obj at ho ⊢
  rw [objL_on] at ho
  cases hs : S i
  · rw [hs] at ho; cases ho
  · rw [hs] at ho; exact ⟨ho, rfl⟩

theorem Rep.frz (hr : Rep c h w) : Rep (frz S c h) ⟨h.nxt, offL S h.l⟩ w where
  lt i o ho := hr.lt i o (off_sub S ho).1
  obj i o ho := by
    have := (hr.obj i o (off_sub S ho).1).sub (A' := ⟨h.nxt, offL S h.l⟩) (fun i o ho => (off_sub S ho).1) rfl
    exact OR.im (c := c) (c' := Ab.frz S c h) (fun hv => VR.im (c := c) (c' := Ab.frz S c h) rfl (fun b hb => .inl hb) hv) this
  inj i j o p ho hp he := hr.inj i j o p (off_sub S ho).1 (off_sub S hp).1 he
  apart i o ho := by
    rintro (hb | ⟨j, p, hp, hs, he⟩)
    · exact hr.apart i o (off_sub S ho).1 hb
    · have := hr.inj j i p o hp (off_sub S ho).1 he
      subst this
      rw [(off_sub S ho).2] at hs; cases hs
  im b hb := by
    rcases hb with hb | ⟨j, p, hp, _, rfl⟩
    · exact hr.im b hb
    · exact (hr.obj j p hp).lt
  glob := hr.glob.mono (fun b hb => .inl hb) fun _ _ => rfl
theorem Ext.frz : Ext c h w (frz S c h) ⟨h.nxt, offL S h.l⟩ w where
  os := rfl
  tape := rfl
  output := rfl
  size := Nat.le_refl _
  frame _ _ _ := rfl
  shape _ _ := rfl
  im b hb := .inl hb
  im' b hb := by
    rcases hb with hb | ⟨j, p, hp, _, he⟩
    · exact .inl hb
    · exact .inr (.inr ⟨j, p, hp, he⟩)
  nxt := Nat.le_refl _
  old i o' _ ho := ⟨o', (off_sub S ho).1, Nat.le_refl _, rfl, fun _ => rfl⟩
  new i o' ho := .inr ⟨o', (off_sub S ho).1, rfl⟩
theorem Hard.frz (hr : Rep c h w) {v v' : SV} (hh : Hard ⟨h.nxt, onL S h.l⟩ v v') {x : Value} (hv : VR c h w v x) : VP (frz S c h).Im w v' x := by
  have hr2 : Rep c ⟨h.nxt, onL S h.l⟩ w := ⟨fun i o ho => hr.lt i o (on_sub S ho).1, fun i o ho => (hr.obj i o (on_sub S ho).1).sub (fun i o ho => (on_sub S ho).1) rfl, fun i j o p ho hp he => hr.inj i j o p (on_sub S ho).1 (on_sub S hp).1 he,
    fun i o ho => hr.apart i o (on_sub S ho).1, hr.im, hr.glob⟩
  exact Hard.vp hr2 (fun b hb => .inl hb) (fun i o ho => .inr ⟨i, o, (on_sub S ho).1, (on_sub S ho).2, rfl⟩) hh (hv.sub (fun i o ho => (on_sub S ho).1) rfl)
end

/-- The named blocks of S are written no more, from this call on. -/
theorem ACall.freeze {P : Program} {f : FuncId} {args args' : List SV} {h : Heap} {R : AEnd → Heap → Prop} (S : Nat → Bool) (hh : HardL ⟨h.nxt, onL S h.l⟩ args args')
    (hp : offK S h.l fun l' => ACall P f args' ⟨h.nxt, l'⟩ R) : ACall P f args h R := by
  rw [offK_eq] at hp
  refine ⟨fun c w xs hr hs hv => ?_⟩
  refine (hp.calls (frz S c h) w xs (hr.frz S) (hs.trans hh.len) fun i v x hi hx => ?_).mono fun en w' hpost => ?_
  · obtain ⟨u, hu, huv⟩ := hh.at_ hi
    exact .pure (huv.frz S hr (hv i u x hu hx))
  · obtain ⟨c', h', r, hR, hr', hx', hen⟩ := hpost
    exact ⟨c', h', r, hR, hr', (Ext.frz S).trans hr hx', hen⟩

theorem brY {b : Bool} {p q : Prop} (h : b = true) (hp : p) : @Bool.rec (fun _ => Prop) q p b := by subst h; exact hp
theorem brN {b : Bool} {p q : Prop} (h : b = false) (hq : q) : @Bool.rec (fun _ => Prop) q p b := by subst h; exact hq
def agree : List SV → Nat → (Nat → SV) → Prop
  | [], _, _ => True
  | v :: r, j, get => v = get j ∧ LitV v ∧ agree r (j + 1) get
theorem agree_at : ∀ {l : List SV} {k : Nat} {get : Nat → SV}, agree l k get → ∀ {j : Nat} {v : SV}, l[j]? = some v → v = get (k + j) ∧ LitV v
  | [], _, _, _, j, v, hv => by simp at hv
  | u :: r, k, get, ⟨h1, h2, h3⟩, 0, v, hv => by simp at hv; subst hv; exact ⟨h1, h2⟩
  | u :: r, k, get, ⟨h1, h2, h3⟩, j + 1, v, hv => by
    have := agree_at h3 (j := j) (v := v) (by simpa using hv)
    rw [Nat.add_assoc, Nat.add_comm 1 j] at this
    exact this
/-- A whole block of plain values. -/
theorem hard_all {A : Heap} {i g sz : Nat} {cap : Option Nat} {elems : List SV} {sk : Sk} {get : Nat → SV} (ho : A.obj i = some (.vec g sz elems sk)) (h : agree elems 0 get) :
    Hard A (.sl i g sz 0 elems.length cap) (.lst sz elems.length get) :=
  .sl ho (by omega) fun j v _ hv => by
    have := agree_at h hv
    rw [Nat.zero_add, Nat.zero_add] at this
    rw [← this.1]
    exact .lit this.2

theorem ACall.frz {P : Program} {f : FuncId} {args args' : List SV} {n : Nat} {l : List (Nat × AObj)} {R : AEnd → Heap → Prop} (S : Nat → Bool) (hh : HardL ⟨n, onL S l⟩ args args')
    (hp : offK S l fun l' => ACall P f args' ⟨n, l'⟩ R) : ACall P f args ⟨n, l⟩ R := ACall.freeze S hh hp
theorem ACall.frz1 {P : Program} {f : FuncId} {v' : SV} {i g sz off len : Nat} {cap : Option Nat} {n : Nat} {l : List (Nat × AObj)} {R : AEnd → Heap → Prop}
    (h2 : Hard ⟨n, onL (fun j => Nat.beq j i) l⟩ (.sl i g sz off len cap) v') (hp : offK (fun j => Nat.beq j i) l fun l' => ACall P f [v'] ⟨n, l'⟩ R) : ACall P f [.sl i g sz off len cap] ⟨n, l⟩ R :=
  ACall.freeze _ (.cons h2 .nil) hp
theorem ACall.frz2 {P : Program} {f : FuncId} {x v' : SV} {i g sz off len : Nat} {cap : Option Nat} {n : Nat} {l : List (Nat × AObj)} {R : AEnd → Heap → Prop} (hx : LitV x)
    (h2 : Hard ⟨n, onL (fun j => Nat.beq j i) l⟩ (.sl i g sz off len cap) v') (hp : offK (fun j => Nat.beq j i) l fun l' => ACall P f [x, v'] ⟨n, l'⟩ R) : ACall P f [x, .sl i g sz off len cap] ⟨n, l⟩ R :=
  ACall.freeze _ (.cons (.lit hx) (.cons h2 .nil)) hp

/-- A value that hangs on no memory at all. -/
inductive Solid : SV → Prop
  | undef : Solid .undef
  | bool (b : Bool) : Solid (.bool b)
  | int (k : IntKind) (n : Int) : Solid (.int k n)
  | str (s : List UInt8) : Solid (.str s)
  | nilp : Solid .nilp
  | nils : Solid .nils
  | glob (g : Nat) : Solid (.glob g)
  | nilf : Solid .nilf
  | nili : Solid .nili
  | nilm : Solid .nilm
  | iface (t : TypeId) {v : SV} (h : Solid v) : Solid (.iface t v)
  | agg {l : List SV} (h : ∀ v ∈ l, Solid v) : Solid (.agg l)
  | tup {l : List SV} (h : ∀ v ∈ l, Solid v) : Solid (.tup l)
theorem Solid.vp {v : SV} (hl : Solid v) : ∀ {c : Cx} {h : Heap} {w : World} {x : Value}, VR c h w v x → ∀ (Im : Nat → Prop) (w' : World), VP Im w' v x := by
  induction hl with
  | iface t _ ih => intro c h w x hv Im w'; obtain ⟨y, rfl, hy⟩ := hv.iface_inv; exact .iface _ _ _ (ih hy _ _)
  | agg _ ih => intro c h w x hv Im w'; obtain ⟨cs, rfl, h1, h2⟩ := hv.agg_inv; exact .agg _ _ h1 fun i v x a b => ih v (List.mem_of_getElem? a) (h2 i v x a b) _ _
  | tup _ ih => intro c h w x hv Im w'; obtain ⟨cs, rfl, h1, h2⟩ := hv.tup_inv; exact .tup _ _ h1 fun i v x a b => ih v (List.mem_of_getElem? a) (h2 i v x a b) _ _
  | undef => intro c h w x _ Im w'; exact .undef _
  | bool b => intro c h w x hv Im w'; rw [hv.bool_inv]; exact .bool b
  | int k n => intro c h w x hv Im w'; rw [hv.int_inv]; exact .int k n
  | str s => intro c h w x hv Im w'; rw [hv.str_inv]; exact .str s
  | nilp => intro c h w x hv Im w'; rw [hv.nilp_inv]; exact .nilp
  | nils => intro c h w x hv Im w'; rw [hv.nils_inv]; exact .nils
  | glob g => intro c h w x hv Im w'; rw [hv.glob_inv]; exact .glob g
  | nilf => intro c h w x hv Im w'; rw [hv.nilf_inv]; exact .nilf
  | nili => intro c h w x hv Im w'; rw [hv.nili_inv]; exact .nili
  | nilm => intro c h w x hv Im w'; rw [hv.nilm_inv]; exact .nilm

/-- The named blocks of S are not written during this call. -/
theorem PCall.lend {P : Program} {f : FuncId} {args args' : List SV} {h : Heap} {v : SV} {R : AEnd → Heap → Prop} (hp : PCall P f args' v) (S : Nat → Bool) (hh : HardL ⟨h.nxt, onL S h.l⟩ args args') (hv : Solid v)
    (hR : R (.ret v) h) : ACall P f args h R := by
  refine ⟨fun c w xs hr hs hva => ?_⟩
  have hr0 : Rep (frz S c h) ⟨0, []⟩ w := ⟨(fun i o ho => by cases ho), (fun i o ho => by cases ho), (fun i j o p ho => by cases ho), (fun i o ho => by cases ho), (hr.frz S).im, (hr.frz S).glob⟩
  refine (hp.2.calls (frz S c h) w xs hr0 (hs.trans hh.len) fun i v x hi hx => ?_).mono fun en w' hpost => ?_
  · obtain ⟨u, hu, huv⟩ := hh.at_ hi
    exact .pure (huv.frz S hr (hva i u x hu hx))
  · obtain ⟨c', h', r, ⟨v', rfl, hhard⟩, hr', hx', x, rfl, hvx⟩ := hpost
    have hfr : ∀ b, b < w.heap.size → w'.heap[b]? = w.heap[b]? := fun b hb => hx'.frame b hb fun i o ho => by cases ho
    have hext : Ext c h w c h w' := ⟨hx'.os, hx'.tape, hx'.output, hx'.size, fun b hb _ => hfr b hb, hx'.shape, fun b hb => hb, fun b hb => .inl hb, Nat.le_refl _,
      fun i o _ ho => ⟨o, ho, Nat.le_refl _, rfl, fun _ => rfl⟩, fun i o ho => .inr ⟨o, ho, rfl⟩⟩
    have hvp := hhard.vp hr' (Im := fun _ => True) (fun _ _ => trivial) (fun _ _ _ => trivial) hvx
    exact ⟨c, h, .ret v, hR, ⟨hr.lt, fun i o ho => (hr.obj i o ho).mono hr hext (hfr _ (hr.obj i o ho).lt), hr.inj, hr.apart, fun b hb => Nat.lt_of_lt_of_le (hr.im b hb) hx'.size, hr.globx hext⟩, hext, x, rfl,
      .pure (hv.vp (c := c) (h := h) (w := w') (.pure (hv.vp (c := ⟨c.β, fun _ => True⟩) (h := h) (.pure hvp) c.Im w')) c.Im w')⟩
end Ab
