/- Loops; functions called; functions of values alone. -/
import Derived.Test.YtboinbjiemmggaaDoorAbX
import Derived.LoopN
namespace Ab
set_option linter.unusedVariables false
set_option linter.unusedSimpArgs false
open Go

/-- Does a value speak of names below n alone? -/
def SV.lt : Nat → Nat → SV → Bool
  | 0, _, _ => false
  | f+1, n, v => match v with
    | .ref i _ _ _ => Nat.blt i n
    | .sl i _ _ _ _ _ => Nat.blt i n
    | .mapv i _ => Nat.blt i n
    | .agg l | .tup l => l.all (SV.lt f n)
    | .func _ a b => a.all (SV.lt f n) && b.all (SV.lt f n)
    | .iface _ v => SV.lt f n v
    | _ => true
def objLt (n : Nat) : AObj → Prop
  | .vec _ _ elems _ => ∀ v ∈ elems, SV.lt 8 n v = true
  | .iter _ _ => True
  | .map _ _ => True
  | .miter m _ _ _ => SV.lt 8 n m = true
  | .fro .. => True
noncomputable section
/-- The slots of these numbers alone. -/
def pickK : List Nat → Env → (Env → Prop) → Prop
  | [], _, k => k []
  | t :: ts, e, k => Env.getK e t fun v => pickK ts e fun e' => k ((t, v) :: e')
def allLtK (n : Nat) (l : List SV) (k : Prop) : Prop := @List.rec SV (fun _ => Prop) k (fun v _ ih => asr (SV.lt 8 n v) ih) l
def objLtK (n : Nat) (o : AObj) (k : Prop) : Prop := match o with
  | .vec _ _ elems _ => allLtK n elems k
  | .iter _ _ => k
  | .map _ _ => k
  | .miter m _ _ _ => asr (SV.lt 8 n m) k
  | .fro .. => k
def cutHK (n : Nat) (l : List (Nat × AObj)) : (List (Nat × AObj) → Prop) → Prop :=
  @List.rec (Nat × AObj) (fun _ => (List (Nat × AObj) → Prop) → Prop) (fun k => k [])
    (fun x _ ih k => match x with
      | (i, o) => @Bool.rec (fun _ => Prop) (ih k) (objLtK n o (ih fun r' => k ((i, o) :: r'))) (Nat.blt i n)) l
def ltE (n : Nat) : Env → Bool
  | [] => true
  | (_, v) :: r => SV.lt 8 n v && ltE n r
/-- Behind a round: the slots that stood at the loop's head, and the blocks that were there. -/
def cutK (ks : List Nat) (n : Nat) (e : Env) (h : Heap) (k : Env → Heap → Prop) : Prop := pickK ks e fun e' => match h with
  | ⟨m, l⟩ => @Bool.rec (fun _ => Prop) (asr (ltE n e' && Nat.ble n m) (cutHK n l fun l' => k e' ⟨n, l'⟩)) (k e' ⟨m, l⟩) (Nat.beq m n)
def backQ (ks : List Nat) (n : Nat) (Q : AExit → Env → Heap → Prop) (I : Env → Heap → Prop) : AExit → Env → Heap → Prop
  | .normal, e, h => cutK ks n e h I
  | x, e, h => Q x e h
def Env.keys : Env → List Nat
  | [] => []
  | (t, _) :: r => t :: Env.keys r
end

theorem VR.cut {c : Cx} {A A' : Heap} {w : World} (hsub : ∀ i o, A'.obj i = some o → A.obj i = some o) : ∀ (f : Nat) {v : SV} {x : Value}, SV.lt f A'.nxt v = true → VR c A w v x → VR c A' w v x := by
  intro f
  induction f with
  | zero => intro v x hl; cases hl
  | succ f ih =>
    intro v x hl hv
    have hnat : ∀ i, Nat.blt i A'.nxt = true → i < A'.nxt := fun i hi => Nat.lt_of_succ_le (by simpa [Nat.blt] using hi)
    cases hv with
    | pure h => exact .pure h
    | ref i g idx sub x hx hi hg h => exact .ref _ _ _ _ _ hx (hnat i hl) (fun o ho => hg o (hsub i o ho)) fun o ho => h o (hsub i o ho)
    | sl i g sz off len cap x hx hi hg h => exact .sl _ _ _ _ _ _ _ hx (hnat i hl) (fun o ho => hg o (hsub i o ho)) fun o ho => h o (hsub i o ho)
    | mapv i g x hx hi hg h => exact .mapv _ _ _ hx (hnat i hl) (fun o ho => hg o (hsub i o ho)) fun o ho => h o (hsub i o ho)
    | iface t v x h => exact .iface _ _ _ (ih hl h)
    | agg l cs hll h => exact .agg _ _ hll fun i v y h1 h2 => ih (List.all_eq_true.1 hl v (List.mem_of_getElem? h1)) (h i v y h1 h2)
    | tup l cs hll h => exact .tup _ _ hll fun i v y h1 h2 => ih (List.all_eq_true.1 hl v (List.mem_of_getElem? h1)) (h i v y h1 h2)
    | func fn a b a' b' ha hb h h' =>
      simp only [SV.lt, Bool.and_eq_true] at hl
      exact .func _ _ _ _ _ ha hb (fun i v y h1 h2 => ih (List.all_eq_true.1 hl.1 v (List.mem_of_getElem? h1)) (h i v y h1 h2)) fun i v y h1 h2 => ih (List.all_eq_true.1 hl.2 v (List.mem_of_getElem? h1)) (h' i v y h1 h2)

theorem allLtK_iff {n : Nat} {k : Prop} : ∀ {l : List SV}, allLtK n l k ↔ (∀ v ∈ l, SV.lt 8 n v = true) ∧ k
  | [] => by simp [allLtK]
  | v :: r => by
    have e : allLtK n (v :: r) k = asr (SV.lt 8 n v) (allLtK n r k) := rfl
    rw [e, asr_iff, allLtK_iff]
    simp [and_assoc]
theorem allLtK_of {n : Nat} {k : Prop} {l : List SV} (h : ∀ v ∈ l, SV.lt 8 n v = true) (hk : k) : allLtK n l k := allLtK_iff.2 ⟨h, hk⟩
theorem objLtK_inv {n : Nat} {o : AObj} {k : Prop} (h : objLtK n o k) : objLt n o ∧ k := by
  cases o with
  | vec g sz elems sk => exact allLtK_iff.1 h
  | iter s pos => exact ⟨trivial, h⟩
  | map es cl => exact ⟨trivial, h⟩
  | miter m since seen stepped => exact asr_iff.1 h
  | fro g ty xs => exact ⟨trivial, h⟩
theorem cutHK_inv {n : Nat} : ∀ {l : List (Nat × AObj)} {k : List (Nat × AObj) → Prop}, cutHK n l k → ∃ l', k l' ∧ (∀ i o, objL l' i = some o → objL l i = some o ∧ i < n ∧ objLt n o) ∧ True
  | [], k, hp => ⟨[], hp, (fun i o ho => by cases ho), trivial⟩
  | (i, o) :: r, k, hp => by
    replace hp : @Bool.rec (fun _ => Prop) (cutHK n r k) (objLtK n o (cutHK n r fun r' => k ((i, o) :: r'))) (Nat.blt i n) := hp
    rcases brE hp with ⟨hb, hp⟩ | ⟨hb, hp⟩
    · obtain ⟨ho, hp⟩ := objLtK_inv hp
      obtain ⟨l', hk, hl, _⟩ := cutHK_inv hp
      refine ⟨_, hk, fun j oj hj => ?_, trivial⟩
      unfold objL at hj ⊢
      by_cases hij : i = j
      · rw [if_pos hij] at hj ⊢
        cases hj
        exact ⟨rfl, by rw [← hij]; exact Nat.lt_of_succ_le (by simpa [Nat.blt] using hb), ho⟩
      · rw [if_neg hij] at hj ⊢
        exact hl j oj hj
    · obtain ⟨l', hk, hl, _⟩ := cutHK_inv hp
      refine ⟨l', hk, fun j oj hj => ?_, trivial⟩
      obtain ⟨h1, h2, h3⟩ := hl j oj hj
      refine ⟨?_, h2, h3⟩
      unfold objL
      rw [if_neg (fun hij => ?_)]
      · exact h1
      · subst hij
        have : Nat.blt i n = true := by
          have : i + 1 ≤ n := h2
          simpa [Nat.blt] using this
        rw [this] at hb; cases hb

theorem pickK_inv : ∀ {ks : List Nat} {e : Env} {k : Env → Prop}, pickK ks e k → ∃ e', k e' ∧ ∀ t, Env.get e' t = .undef ∨ Env.get e' t = Env.get e t
  | [], e, k, hp => ⟨[], hp, fun t => .inl rfl⟩
  | s :: ts, e, k, hp => by
    simp only [pickK, getK_eq] at hp
    obtain ⟨e', hk, he⟩ := pickK_inv hp
    refine ⟨_, hk, fun t => ?_⟩
    conv => lhs; lhs; unfold Env.get
    conv => rhs; lhs; unfold Env.get
    rcases beq_cases s t with ⟨h, h'⟩ | ⟨h, h'⟩ <;> rw [h]
    · subst h'; exact .inr rfl
    · exact he t

theorem ltE_get {n : Nat} : ∀ {e : Env}, ltE n e = true → ∀ t, SV.lt 8 n (Env.get e t) = true
  | [], _, t => rfl
  | (s, v) :: r, hl, t => by
    simp only [ltE, Bool.and_eq_true] at hl
    unfold Env.get
    rcases beq_cases s t with ⟨h, h'⟩ | ⟨h, h'⟩ <;> rw [h]
    · exact hl.1
    · exact ltE_get hl.2 t

/-- What stands behind a cut still reads so. -/
theorem cutK_inv {ks : List Nat} {n : Nat} {e : Env} {h : Heap} {k : Env → Heap → Prop} (hp : cutK ks n e h k) {c : Cx} {w : World} {tmps : Array Value} (hr : Rep c h w) (he : ER c h w e tmps) {c0 : Cx} {h0 : Heap} {w0 : World} (hx : Ext c0 h0 w0 c h w) (hn : h0.nxt ≤ n) :
    ∃ e' h', k e' h' ∧ Rep c h' w ∧ ER c h' w e' tmps ∧ Ext c0 h0 w0 c h' w := by
  unfold cutK at hp
  obtain ⟨e', hp, hee⟩ := pickK_inv hp
  obtain ⟨m, l⟩ := h
  have he' : ER c ⟨m, l⟩ w e' tmps := fun t => by
    rcases hee t with h | h
    · rw [h]; exact .undef
    · rw [h]; exact he t
  rcases brE hp with ⟨hb, hp⟩ | ⟨hb, hp⟩
  · exact ⟨e', _, hp, hr, he', hx⟩
  · replace hp := asr_iff.1 hp
    obtain ⟨hlt, hp⟩ := hp
    simp only [Bool.and_eq_true] at hlt
    obtain ⟨l', hk, hl, _⟩ := cutHK_inv hp
    have hsub : ∀ i o, (Heap.mk n l').obj i = some o → (Heap.mk m l).obj i = some o := fun i o ho => (hl i o ho).1
    refine ⟨e', _, hk, ⟨fun i o ho => (hl i o ho).2.1, fun i o ho => ?_, fun i j o p ho hp' heq => hr.inj i j o p (hsub i o ho) (hsub j p hp') heq, fun i o ho => hr.apart i o (hsub i o ho), hr.im, hr.glob⟩, fun t => (he' t).cut hsub 8 (ltE_get hlt.1 t), ?_⟩
    · have hor := hr.obj i o (hsub i o ho)
      have holt := (hl i o ho).2.2
      cases hor with
      | vec g sz elems slack C ty fz hw hle heq hty hc hf hcell =>
        refine .vec g sz elems slack C ty fz hw hle heq hty hc hf fun i j e v x h1 h2 h3 => ?_
        have hv := hcell i j e v x h1 h2 h3
        have hlte := holt e (List.mem_of_getElem? h1)
        by_cases hagg : ∃ l, e = .agg l
        · obtain ⟨l, rfl⟩ := hagg
          exact hv.cut hsub 7 (List.all_eq_true.1 hlte v (List.mem_of_getElem? h2))
        · have h1 : e.cells = [e] := by cases e <;> first | rfl | exact absurd ⟨_, rfl⟩ hagg
          rw [h1] at h2
          cases j with
          | zero => simp at h2; subst h2; exact hv.cut hsub 8 hlte
          | succ j => simp at h2
      | iter s pos hw => exact .iter s pos hw
      | map es cl hw hs => exact .map es cl hw hs
      | miter m since seen stepped r hw hm => exact .miter m since seen stepped r hw (hm.cut hsub 8 holt)
      | fro g ty xs C fz hw hle hc => exact .fro g ty xs C fz hw hle hc
    · refine ⟨hx.os, hx.tape, hx.output, hx.size, hx.frame, hx.shape, hx.im, hx.im', hn, fun i o' hi ho' => hx.old i o' hi (hsub i o' ho'), fun i o' ho' => hx.new i o' (hsub i o' ho')⟩

/-- A loop, by a number that falls. -/
theorem loop_ok {P : Program} {b : ACode} {Q : AExit → Env → Heap → Prop} (J : Nat → Env → Heap → Prop)
    (hJ : ∀ m e h, J m e h → awp P b (backQ (Env.keys e) h.nxt Q (fun e' h' => ∃ m', m' < m ∧ J m' e' h')) e h) {m : Nat} {e : Env} {h : Heap} (h0 : J m e h) : ALoop P b Q e h := by
  refine ⟨fun n code hmix hord hc c w a hr he hn => ?_⟩
  let I : Nat → Act → World → Prop := fun m' a' w' => ∃ c' e' h', J m' e' h' ∧ Rep c' h' w' ∧ Ext c h w c' h' w' ∧ ER c' h' w' e' a'.tmps ∧ a'.tmps.size = n ∧ a'.defers = a.defers
  have hleast : ∀ a' w', (∃ m', I m' a' w') → ∃ m', I m' a' w' ∧ ∀ m'', I m'' a' w' → m' ≤ m'' := by
    intro a' w' ⟨m', hm'⟩
    refine Classical.byContradiction fun hno => ?_
    have : ∀ k, ∀ m'', m'' ≤ k → ¬ I m'' a' w' := by
      intro k
      induction k with
      | zero => intro m'' hk hI; exact hno ⟨m'', hI, fun m3 _ => by omega⟩
      | succ k ih =>
        intro m'' hk hI
        refine hno ⟨m'', hI, fun m3 h3 => ?_⟩
        rcases Nat.lt_or_ge k m3 with h | h
        · omega
        · exact absurd h3 (ih m3 h)
    exact this m' m' (Nat.le_refl _) hm'
  classical
  let μ : Act → World → Nat := fun a' w' => if hh : ∃ m', I m' a' w' then Classical.choose (hleast a' w' hh) else 0
  have hμ : ∀ a' w' m', I m' a' w' → I (μ a' w') a' w' ∧ μ a' w' ≤ m' := by
    intro a' w' m' hm'
    have hh : ∃ m', I m' a' w' := ⟨m', hm'⟩
    have hs := Classical.choose_spec (hleast a' w' hh)
    have e : μ a' w' = Classical.choose (hleast a' w' hh) := by simp only [μ]; rw [dif_pos hh]
    rw [e]
    exact ⟨hs.1, hs.2 m' hm'⟩
  refine wp_loop (fun a' w' => ∃ m', I m' a' w') μ ⟨m, c, e, h, h0, hr, .refl, he, hn, rfl⟩ fun a1 w1 hI => ?_
  obtain ⟨m1, hI1⟩ := hI
  obtain ⟨⟨c1, e1, h1, hj, hr1, hx1, he1, hn1, hd1⟩, _⟩ := hμ a1 w1 m1 hI1
  have hb := awp_sound (n := n) hmix code b _ e1 h1 hord hc (hJ _ e1 h1 hj) c1 w1 a1 hr1 he1 hn1
  refine wp_mono hb fun ex a2 w2 hpost => ?_
  obtain ⟨c2, h2, e2, xx, hq, hr2, hx2, he2, hn2, hd2, hex⟩ := hpost
  cases ex with
  | normal =>
    cases xx <;> try exact hex.elim
    obtain ⟨e3, h3, ⟨m3, hlt, hj3⟩, hr3, he3, hx3⟩ := cutK_inv (ks := Env.keys e1) (k := fun e' h' => ∃ m', m' < μ a1 w1 ∧ J m' e' h') hq hr2 he2 hx2 (Nat.le_refl _)
    simp only [Exit.then]
    have hI3 : I m3 a2 w2 := ⟨c2, e3, h3, hj3, hr3, hx1.trans hr hx3, he3, hn2, hd2.trans hd1⟩
    exact ⟨⟨m3, hI3⟩, Nat.lt_of_le_of_lt (hμ a2 w2 m3 hI3).2 hlt⟩
  | exit i => cases xx <;> first | exact hex.elim | exact ⟨c2, h2, e2, _, hq, hr2, hx1.trans hr hx2, he2, hn2, hd2.trans hd1, hex⟩
  | goto l => cases xx <;> exact hex.elim
  | ret => cases xx <;> first | exact hex.elim | exact ⟨c2, h2, e2, _, hq, hr2, hx1.trans hr hx2, he2, hn2, hd2.trans hd1, hex⟩
  | panic ch => cases xx <;> first | exact hex.elim | exact ⟨c2, h2, e2, _, hq, hr2, hx1.trans hr hx2, he2, hn2, hd2.trans hd1, hex⟩
  | outgrown => cases xx <;> exact hex.elim

/-- The same; what was made up to a number lives on. -/
theorem loop_okN {P : Program} {b : ACode} {Q : AExit → Env → Heap → Prop} (J : Nat → Env → Heap → Prop)
    (hJ : ∀ m e h, J m e h → ∃ N K, h.nxt ≤ N ∧ (∀ e' h', K e' h' → ∃ m', m' < m ∧ J m' e' h') ∧ awp P b (backQ (Env.keys e) N Q K) e h) {m : Nat} {e : Env} {h : Heap} (h0 : J m e h) : ALoop P b Q e h := by
  refine ⟨fun n code hmix hord hc c w a hr he hn => ?_⟩
  let I : Nat → Act → World → Prop := fun m' a' w' => ∃ c' e' h', J m' e' h' ∧ Rep c' h' w' ∧ Ext c h w c' h' w' ∧ ER c' h' w' e' a'.tmps ∧ a'.tmps.size = n ∧ a'.defers = a.defers
  have hleast : ∀ a' w', (∃ m', I m' a' w') → ∃ m', I m' a' w' ∧ ∀ m'', I m'' a' w' → m' ≤ m'' := by
    intro a' w' ⟨m', hm'⟩
    refine Classical.byContradiction fun hno => ?_
    have : ∀ k, ∀ m'', m'' ≤ k → ¬ I m'' a' w' := by
      intro k
      induction k with
      | zero => intro m'' hk hI; exact hno ⟨m'', hI, fun m3 _ => by omega⟩
      | succ k ih =>
        intro m'' hk hI
        refine hno ⟨m'', hI, fun m3 h3 => ?_⟩
        rcases Nat.lt_or_ge k m3 with h | h
        · omega
        · exact absurd h3 (ih m3 h)
    exact this m' m' (Nat.le_refl _) hm'
  classical
  let μ : Act → World → Nat := fun a' w' => if hh : ∃ m', I m' a' w' then Classical.choose (hleast a' w' hh) else 0
  have hμ : ∀ a' w' m', I m' a' w' → I (μ a' w') a' w' ∧ μ a' w' ≤ m' := by
    intro a' w' m' hm'
    have hh : ∃ m', I m' a' w' := ⟨m', hm'⟩
    have hs := Classical.choose_spec (hleast a' w' hh)
    have e : μ a' w' = Classical.choose (hleast a' w' hh) := by simp only [μ]; rw [dif_pos hh]
    rw [e]
    exact ⟨hs.1, hs.2 m' hm'⟩
  refine wp_loop (fun a' w' => ∃ m', I m' a' w') μ ⟨m, c, e, h, h0, hr, .refl, he, hn, rfl⟩ fun a1 w1 hI => ?_
  obtain ⟨m1, hI1⟩ := hI
  obtain ⟨⟨c1, e1, h1, hj, hr1, hx1, he1, hn1, hd1⟩, _⟩ := hμ a1 w1 m1 hI1
  obtain ⟨N, K, hN, hK, hawp⟩ := hJ _ e1 h1 hj
  have hb := awp_sound (n := n) hmix code b _ e1 h1 hord hc hawp c1 w1 a1 hr1 he1 hn1
  refine wp_mono hb fun ex a2 w2 hpost => ?_
  obtain ⟨c2, h2, e2, xx, hq, hr2, hx2, he2, hn2, hd2, hex⟩ := hpost
  cases ex with
  | normal =>
    cases xx <;> try exact hex.elim
    obtain ⟨e3, h3, hk3, hr3, he3, hx3⟩ := cutK_inv (ks := Env.keys e1) (k := K) hq hr2 he2 hx2 hN
    obtain ⟨m3, hlt, hj3⟩ := hK _ _ hk3
    simp only [Exit.then]
    have hI3 : I m3 a2 w2 := ⟨c2, e3, h3, hj3, hr3, hx1.trans hr hx3, he3, hn2, hd2.trans hd1⟩
    exact ⟨⟨m3, hI3⟩, Nat.lt_of_le_of_lt (hμ a2 w2 m3 hI3).2 hlt⟩
  | exit i => cases xx <;> first | exact hex.elim | exact ⟨c2, h2, e2, _, hq, hr2, hx1.trans hr hx2, he2, hn2, hd2.trans hd1, hex⟩
  | goto l => cases xx <;> exact hex.elim
  | ret => cases xx <;> first | exact hex.elim | exact ⟨c2, h2, e2, _, hq, hr2, hx1.trans hr hx2, he2, hn2, hd2.trans hd1, hex⟩
  | panic ch => cases xx <;> first | exact hex.elim | exact ⟨c2, h2, e2, _, hq, hr2, hx1.trans hr hx2, he2, hn2, hd2.trans hd1, hex⟩
  | outgrown => cases xx <;> exact hex.elim

/-- A loop, its slots and its memory at the head of a round told by a datum. -/
theorem loop_ind {P : Program} {b : ACode} {Q : AExit → Env → Heap → Prop} {σ : Type} (env : σ → Env) (hp : σ → Heap) (μ : σ → Nat)
    (step : ∀ s, awp P b (backQ (Env.keys (env s)) (hp s).nxt Q (fun e' h' => ∃ s', μ s' < μ s ∧ e' = env s' ∧ h' = hp s')) (env s) (hp s)) (s : σ) : ALoop P b Q (env s) (hp s) :=
  loop_ok (fun m e h => ∃ s, μ s = m ∧ e = env s ∧ h = hp s) (fun m e h ⟨s, hm, he, hh⟩ => by
    subst hm; subst he; subst hh
    have key : (fun e' h' => ∃ s', μ s' < μ s ∧ e' = env s' ∧ h' = hp s') = fun e' h' => ∃ m', m' < μ s ∧ ∃ s, μ s = m' ∧ e' = env s ∧ h' = hp s := by
      funext e' h'
      apply propext
      constructor
      · rintro ⟨s', hlt, he, hh⟩; exact ⟨_, hlt, s', rfl, he, hh⟩
      · rintro ⟨m', hlt, s', rfl, he, hh⟩; exact ⟨s', hlt, he, hh⟩
    rw [← key]
    exact step s) ⟨s, rfl, rfl, rfl⟩

/-- A loop whose first round makes what lives on. -/
theorem loop_two {P : Program} {b : ACode} {Q : AExit → Env → Heap → Prop} {σ : Type} (env : σ → Env) (hp : σ → Heap) (μ : σ → Nat) (M N : Nat) {e : Env} {h : Heap} (hN : h.nxt ≤ N)
    (first : awp P b (backQ (Env.keys e) N Q (fun e' h' => ∃ s, μ s < M ∧ e' = env s ∧ h' = hp s)) e h)
    (step : ∀ s, awp P b (backQ (Env.keys (env s)) (hp s).nxt Q (fun e' h' => ∃ s', μ s' < μ s ∧ e' = env s' ∧ h' = hp s')) (env s) (hp s)) : ALoop P b Q e h :=
  loop_okN (fun m e' h' => (m = M ∧ e' = e ∧ h' = h) ∨ ∃ s, μ s = m ∧ e' = env s ∧ h' = hp s) (fun m e' h' hj => by
    rcases hj with ⟨rfl, rfl, rfl⟩ | ⟨s, rfl, rfl, rfl⟩
    · exact ⟨N, _, hN, fun e' h' ⟨s, hs, he, hh⟩ => ⟨μ s, hs, .inr ⟨s, rfl, he, hh⟩⟩, first⟩
    · exact ⟨_, _, Nat.le_refl _, fun e' h' ⟨s', hs, he, hh⟩ => ⟨μ s', hs, .inr ⟨s', rfl, he, hh⟩⟩, step s⟩) (.inl ⟨rfl, rfl, rfl⟩)

/-- So many rounds at most, one behind the other. -/
structure ARound (P : Program) (b : ACode) (Q : AExit → Env → Heap → Prop) (m : Nat) (e : Env) (h : Heap) : Prop where
  run : ∀ n code, P.follows .mixedOrders = true → ordsOk b = true → erase b = cCode P n code → ∀ (c : Cx) (w : World) (a : Act), Rep c h w → ER c h w e a.tmps → a.tmps.size = n → Code.rounds P code (Post c h w Q n a.defers) m a w

theorem rounds_mono {P : Program} {code : Code} {Q Q' : Exit → Act → World → Prop} (hq : ∀ e a w, Q e a w → Q' e a w) : ∀ (m : Nat) {a : Act} {w : World}, Code.rounds P code Q m a w → Code.rounds P code Q' m a w
  | 0, _, _, h => h.elim
  | m+1, _, _, h => by
    rw [rounds_succ] at h ⊢
    refine wp_mono h fun ex a' w' hx => ?_
    cases ex <;> first | exact hq _ _ _ hx | exact rounds_mono hq m hx

theorem ARound.succ {P : Program} {b : ACode} {Q : AExit → Env → Heap → Prop} {m : Nat} {e : Env} {h : Heap} (hp : awp P b (backQ (Env.keys e) h.nxt Q (ARound P b Q m)) e h) : ARound P b Q (m + 1) e h := by
  refine ⟨fun n code hmix hord hc c w a hr he hn => ?_⟩
  rw [rounds_succ]
  refine wp_mono (awp_sound (n := n) hmix code b _ e h hord hc hp c w a hr he hn) fun ex a2 w2 hpost => ?_
  obtain ⟨c2, h2, e2, xx, hq, hr2, hx2, he2, hn2, hd2, hex⟩ := hpost
  cases ex with
  | normal =>
    cases xx <;> try exact hex.elim
    obtain ⟨e3, h3, hj3, hr3, he3, hx3⟩ := cutK_inv (ks := Env.keys e) (k := ARound P b Q m) hq hr2 he2 hx2 (Nat.le_refl _)
    simp only [Exit.then]
    have := hj3.run n code hmix hord hc c2 w2 a2 hr3 he3 hn2
    rw [hd2] at this
    exact rounds_mono (fun _ _ _ hp2 => hp2.of hr hx3) m this
  | exit i => cases xx <;> first | exact hex.elim | exact ⟨c2, h2, e2, _, hq, hr2, hx2, he2, hn2, hd2, hex⟩
  | goto l => cases xx <;> exact hex.elim
  | ret => cases xx <;> first | exact hex.elim | exact ⟨c2, h2, e2, _, hq, hr2, hx2, he2, hn2, hd2, hex⟩
  | panic ch => cases xx <;> first | exact hex.elim | exact ⟨c2, h2, e2, _, hq, hr2, hx2, he2, hn2, hd2, hex⟩
  | outgrown => cases xx <;> exact hex.elim

theorem loop_rounds {P : Program} {b : ACode} {Q : AExit → Env → Heap → Prop} (m : Nat) {e : Env} {h : Heap} (hp : ARound P b Q m e h) : ALoop P b Q e h :=
  ⟨fun n code hmix hord hc c w a hr he hn => wp_loop_rounds m (hp.run n code hmix hord hc c w a hr he hn)⟩

/-! Loops that make memory which lives on: the slots of the loop's head are kept, and all memory. -/
section
noncomputable section
def keepQ (ks : List Nat) (Q : AExit → Env → Heap → Prop) (I : Env → Heap → Prop) : AExit → Env → Heap → Prop
  | .normal, e, h => pickK ks e fun e' => I e' h
  | x, e, h => Q x e h
end
/-- Some of the named memory. -/
structure HSub (A' A : Heap) : Prop where
  nxt : A'.nxt = A.nxt
  sub : ∀ i o, A'.obj i = some o → A.obj i = some o
theorem HSub.refl (A : Heap) : HSub A A := ⟨rfl, fun _ _ h => h⟩
theorem VR.hsub {c : Cx} {A A' : Heap} {w : World} (hs : HSub A' A) {v : SV} {x : Value} (h : VR c A w v x) : VR c A' w v x := by
  induction h with
  | pure h => exact .pure h
  | ref i g idx sub x hx hi hg h => exact .ref _ _ _ _ _ hx (by rw [hs.nxt]; exact hi) (fun o ho => hg o (hs.sub i o ho)) fun o ho => h o (hs.sub i o ho)
  | sl i g sz off len cap x hx hi hg h => exact .sl _ _ _ _ _ _ _ hx (by rw [hs.nxt]; exact hi) (fun o ho => hg o (hs.sub i o ho)) fun o ho => h o (hs.sub i o ho)
  | mapv i g x hx hi hg h => exact .mapv _ _ _ hx (by rw [hs.nxt]; exact hi) (fun o ho => hg o (hs.sub i o ho)) fun o ho => h o (hs.sub i o ho)
  | iface t v x _ ih => exact .iface _ _ _ ih
  | agg l cs hl _ ih => exact .agg _ _ hl ih
  | tup l cs hl _ ih => exact .tup _ _ hl ih
  | func fn a b a' b' ha hb _ _ ih ih' => exact .func _ _ _ _ _ ha hb ih ih'
theorem Rep.hsub {c : Cx} {A A' : Heap} {w : World} (hs : HSub A' A) (hr : Rep c A w) : Rep c A' w := by
  refine ⟨fun i o ho => by rw [hs.nxt]; exact hr.lt i o (hs.sub i o ho), fun i o ho => ?_, fun i j o p ho hp he => hr.inj i j o p (hs.sub i o ho) (hs.sub j p hp) he, fun i o ho => hr.apart i o (hs.sub i o ho), hr.im, hr.glob⟩
  cases hr.obj i o (hs.sub i o ho) with
  | vec g sz elems sk C ty fz hw hle heq hty hc hf hcell => exact .vec g sz elems sk C ty fz hw hle heq hty hc hf fun i j e v x a b d => (hcell i j e v x a b d).hsub hs
  | iter s pos hw => exact .iter s pos hw
  | map es cl hw hs' => exact .map es cl hw hs'
  | miter m since seen stepped r hw hm => exact .miter m since seen stepped r hw (hm.hsub hs)
  | fro g ty xs C fz hw hle hc => exact .fro g ty xs C fz hw hle hc
theorem Ext.hsub {c : Cx} {A A' : Heap} {w : World} (hs : HSub A' A) : Ext c A w c A' w :=
  ⟨rfl, rfl, rfl, Nat.le_refl _, fun _ _ _ => rfl, fun _ _ => rfl, fun _ h => h, fun _ h => .inl h, Nat.le_of_eq hs.nxt.symm, fun i o' _ h => ⟨o', hs.sub i o' h, Nat.le_refl _, rfl, fun _ => rfl⟩, fun i o' h => .inr ⟨o', hs.sub i o' h, rfl⟩⟩

theorem keep_inv {ks : List Nat} {e : Env} {h : Heap} {I : Env → Heap → Prop} (hp : pickK ks e fun e' => I e' h) {c : Cx} {w : World} {tmps : Array Value} (he : ER c h w e tmps) : ∃ e', I e' h ∧ ER c h w e' tmps := by
  obtain ⟨e', h1, h2⟩ := pickK_inv hp
  refine ⟨e', h1, fun t => ?_⟩
  rcases h2 t with h3 | h3 <;> rw [h3]
  · exact .undef
  · exact he t

theorem loop_full {P : Program} {b : ACode} {Q : AExit → Env → Heap → Prop} {σ : Type} (env : σ → Env) (hp : σ → Heap) (μ : σ → Nat)
    (step : ∀ s, awp P b (keepQ (Env.keys (env s)) Q (fun e' h' => ∃ s', μ s' < μ s ∧ e' = env s' ∧ HSub (hp s') h')) (env s) (hp s)) (s : σ) {h : Heap} (h0 : HSub (hp s) h) : ALoop P b Q (env s) h := by
  refine ⟨fun n code hmix hord hc c w a hr he hn => ?_⟩
  let I : σ → Act → World → Prop := fun s' a' w' => ∃ c', Rep c' (hp s') w' ∧ Ext c h w c' (hp s') w' ∧ ER c' (hp s') w' (env s') a'.tmps ∧ a'.tmps.size = n ∧ a'.defers = a.defers
  have hleast : ∀ a' w', (∃ s', I s' a' w') → ∃ s', I s' a' w' ∧ ∀ s'', I s'' a' w' → μ s' ≤ μ s'' := by
    intro a' w' ⟨s', hs'⟩
    refine Classical.byContradiction fun hno => ?_
    have : ∀ k, ∀ s'', μ s'' ≤ k → ¬ I s'' a' w' := by
      intro k
      induction k with
      | zero => intro s'' hk hI; exact hno ⟨s'', hI, fun s3 _ => by omega⟩
      | succ k ih =>
        intro s'' hk hI
        refine hno ⟨s'', hI, fun s3 h3 => ?_⟩
        rcases Nat.lt_or_ge k (μ s3) with h | h
        · omega
        · exact absurd h3 (ih s3 h)
    exact this (μ s') s' (Nat.le_refl _) hs'
  classical
  let ν : Act → World → Nat := fun a' w' => if hh : ∃ s', I s' a' w' then μ (Classical.choose (hleast a' w' hh)) else 0
  have hν : ∀ a' w' s', I s' a' w' → ∃ s'', I s'' a' w' ∧ μ s'' = ν a' w' ∧ ν a' w' ≤ μ s' := by
    intro a' w' s' hs'
    have hh : ∃ s', I s' a' w' := ⟨s', hs'⟩
    have hs := Classical.choose_spec (hleast a' w' hh)
    have e : ν a' w' = μ (Classical.choose (hleast a' w' hh)) := by simp only [ν]; rw [dif_pos hh]
    exact ⟨_, hs.1, e.symm, by rw [e]; exact hs.2 s' hs'⟩
  refine wp_loop (fun a' w' => ∃ s', I s' a' w') ν ⟨s, c, hr.hsub h0, .hsub h0, fun t => (he t).hsub h0, hn, rfl⟩ fun a1 w1 hI => ?_
  obtain ⟨s0, hI0⟩ := hI
  obtain ⟨s1, ⟨c1, hr1, hx1, he1, hn1, hd1⟩, hν1, _⟩ := hν a1 w1 s0 hI0
  have hb := awp_sound (n := n) hmix code b _ _ _ hord hc (step s1) c1 w1 a1 hr1 he1 hn1
  refine wp_mono hb fun ex a2 w2 hpost => ?_
  obtain ⟨c2, h2, e2, xx, hq, hr2, hx2, he2, hn2, hd2, hex⟩ := hpost
  cases ex with
  | normal =>
    cases xx <;> try exact hex.elim
    obtain ⟨e3, ⟨s3, hlt, rfl, hs3⟩, he3⟩ := keep_inv (I := fun e' h' => ∃ s', μ s' < μ s1 ∧ e' = env s' ∧ HSub (hp s') h') hq he2
    simp only [Exit.then]
    have hI3 : I s3 a2 w2 := ⟨c2, hr2.hsub hs3, (hx1.trans hr hx2).trans hr (.hsub hs3), fun t => (he3 t).hsub hs3, hn2, hd2.trans hd1⟩
    obtain ⟨s4, _, hν4, hle4⟩ := hν a2 w2 s3 hI3
    exact ⟨⟨s3, hI3⟩, by omega⟩
  | exit i => cases xx <;> first | exact hex.elim | exact ⟨c2, h2, e2, _, hq, hr2, hx1.trans hr hx2, he2, hn2, hd2.trans hd1, hex⟩
  | goto l => cases xx <;> exact hex.elim
  | ret => cases xx <;> first | exact hex.elim | exact ⟨c2, h2, e2, _, hq, hr2, hx1.trans hr hx2, he2, hn2, hd2.trans hd1, hex⟩
  | panic ch => cases xx <;> first | exact hex.elim | exact ⟨c2, h2, e2, _, hq, hr2, hx1.trans hr hx2, he2, hn2, hd2.trans hd1, hex⟩
  | outgrown => cases xx <;> exact hex.elim

/-- A round behind which all memory lives on. -/
theorem ARound.full {P : Program} {b : ACode} {Q : AExit → Env → Heap → Prop} {m : Nat} {e : Env} {h : Heap} (hp : awp P b (keepQ (Env.keys e) Q (ARound P b Q m)) e h) : ARound P b Q (m + 1) e h := by
  refine ⟨fun n code hmix hord hc c w a hr he hn => ?_⟩
  rw [rounds_succ]
  refine wp_mono (awp_sound (n := n) hmix code b _ e h hord hc hp c w a hr he hn) fun ex a2 w2 hpost => ?_
  obtain ⟨c2, h2, e2, xx, hq, hr2, hx2, he2, hn2, hd2, hex⟩ := hpost
  cases ex with
  | normal =>
    cases xx <;> try exact hex.elim
    obtain ⟨e3, hj3, he3⟩ := keep_inv (I := ARound P b Q m) hq he2
    simp only [Exit.then]
    have := hj3.run n code hmix hord hc c2 w2 a2 hr2 he3 hn2
    rw [hd2] at this
    exact rounds_mono (fun _ _ _ hp2 => hp2.of hr hx2) m this
  | exit i => cases xx <;> first | exact hex.elim | exact ⟨c2, h2, e2, _, hq, hr2, hx2, he2, hn2, hd2, hex⟩
  | goto l => cases xx <;> exact hex.elim
  | ret => cases xx <;> first | exact hex.elim | exact ⟨c2, h2, e2, _, hq, hr2, hx2, he2, hn2, hd2, hex⟩
  | panic ch => cases xx <;> first | exact hex.elim | exact ⟨c2, h2, e2, _, hq, hr2, hx2, he2, hn2, hd2, hex⟩
  | outgrown => cases xx <;> exact hex.elim
end

/-! ## Functions -/
inductive RV where
  | tmp (t : Nat)
  | cellS (t : Nat)
  | cellA (t n : Nat)
def cRes (P : Program) : List ResultVar → Option (List RV)
  | [] => some []
  | .tmp t :: r => (cRes P r).map (.tmp t :: ·)
  | .cell t ty :: r => match isAggT P ty, P.info? ty with
    | some true, some i => (cRes P r).map (.cellA t i.size :: ·)
    | some false, _ => (cRes P r).map (.cellS t :: ·)
    | _, _ => none
noncomputable section
def resK : List RV → Env → Heap → (List SV → Prop) → Prop
  | [], _, _, k => k []
  | .tmp t :: r, e, h, k => Env.getK e t fun v => resK r e h fun vs => k (v :: vs)
  | .cellS t :: r, e, h, k => Env.getK e t fun p => readP h p fun cs sub => match getL cs sub with
    | some v => resK r e h fun vs => k (v :: vs)
    | none => False
  | .cellA t n :: r, e, h, k => Env.getK e t fun p => readP h p fun cs sub => dropN cs sub fun cs => takeN cs n fun l => resK r e h fun vs => k (.agg l :: vs)
def finQ (rs : List RV) (R : AEnd → Heap → Prop) : AExit → Env → Heap → Prop
  | .normal, e, h | .ret, e, h => resK rs e h fun vs => match vs with
    | [v] => R (.ret v) h
    | vs => R (.ret (.tup vs)) h
  | .panic v, _, h => R (.pan v) h
  | .exit _, _, _ => False
def argEnv : Nat → List SV → Env
  | _, [] => []
  | i, v :: r => (i, v) :: argEnv (i + 1) r
end

theorem resK_run {P : Program} {c : Cx} {h : Heap} {w : World} {e : Env} {tmps : Array Value} (hr : Rep c h w) (he : ER c h w e tmps) : ∀ (vars : List ResultVar) (rs : List RV) (k : List SV → Prop), cRes P vars = some rs → resK rs e h k →
    ∃ vs xs, k vs ∧ (vars.mapM fun v => (match v with | .tmp t => pure (tmps.getD t undef) | .cell a t => do loadVar t (← asAddr (tmps.getD a undef)) : Sem Value)).run P w = .ok xs w ∧ xs.length = vs.length ∧
      ∀ (i : Nat) (v : SV) (x : Value), vs[i]? = some v → xs[i]? = some x → VR c h w v x
  | [], rs, k, hc, hp => by
    simp only [cRes, Option.some.injEq] at hc
    subst hc
    exact ⟨[], [], hp, by simp, rfl, fun i v x hv => by simp at hv⟩
  | .tmp t :: r, rs, k, hc, hp => by
    simp only [cRes, Option.map_eq_some_iff] at hc
    obtain ⟨rs', hc, rfl⟩ := hc
    simp only [resK, getK_eq] at hp
    obtain ⟨vs, xs, hk, hrun, hl, hv⟩ := resK_run hr he r rs' _ hc hp
    refine ⟨_, tmps.getD t undef :: xs, hk, ?_, by simp [hl], fun i v x h1 h2 => ?_⟩
    · rw [List.mapM_cons]
      simp only [Sem.run_bind, Sem.run_pure, Result.andThen_ok, hrun]
    · cases i with
      | zero => simp at h1 h2; subst h1; rw [← h2]; simpa using he t
      | succ i => exact hv i v x (by simpa using h1) (by simpa using h2)
  | .cell t ty :: r, rs, k, hc, hp => by
    simp only [cRes] at hc
    split at hc
    · rename_i i hag hi
      obtain ⟨rs', hc', rfl⟩ := Option.map_eq_some_iff.1 hc
      simp only [resK, getK_eq] at hp
      obtain ⟨cs, sub, b, base, C, tyy, fz, hk, hx, hw, hle, hcc⟩ := readP_inv hr (he t) hp
      obtain ⟨h1, hk⟩ := dropN_iff.1 hk
      obtain ⟨h2, hk⟩ := takeN_iff.1 hk
      simp only [List.length_drop] at h2
      obtain ⟨vs, xs, hk, hrun, hl, hv⟩ := resK_run hr he r rs' _ hc' hk
      let l := (C.toList.drop (base + sub)).take i.size
      have hll : l.length = i.size := by simp [l]; omega
      have hload := run_loadCells_list (P := P) w ⟨b, base + sub, none⟩ l (fun j v hv => by
        rw [add_eq]
        simp only [World.cell?, hw, Option.isSome_none]
        simp only [l, List.getElem?_take, List.getElem?_drop] at hv
        split at hv
        · simpa using hv
        · cases hv)
      rw [hll] at hload
      refine ⟨_, .agg l.toArray :: xs, hk, ?_, by simp [hl], fun j v x q1 q2 => ?_⟩
      · rw [List.mapM_cons, Sem.run_bind]
        have hhead : (do loadVar ty (← asAddr (tmps.getD t undef)) : Sem Value).run P w = .ok (.agg l.toArray) w := by
          simp only [Sem.run_bind, hx, asAddr, Sem.run_pure, Result.andThen_ok, loadVar, isAgg_run hag, if_true, sizeOf_run hi, hload]
        refine (congrArg (fun r => Result.andThen r _) hhead).trans ?_
        simp only [Result.andThen_ok, Sem.run_bind, hrun, Sem.run_pure]
      · cases j with
        | zero =>
          simp at q1 q2
          subst q1; subst q2
          refine .agg _ _ (by simp [l]; omega) fun j v y hv hy => ?_
          simp only [List.getElem?_take, List.getElem?_drop] at hv
          simp only [l, List.getElem?_toArray, List.getElem?_take, List.getElem?_drop] at hy
          split at hv
          · rw [if_pos ‹_›] at hy
            exact hcc (sub + j) v y hv (by simpa [Nat.add_assoc] using hy)
          · cases hv
        | succ j => exact hv j v x (by simpa using q1) (by simpa using q2)
    · rename_i hag
      obtain ⟨rs', hc', rfl⟩ := Option.map_eq_some_iff.1 hc
      simp only [resK, getK_eq] at hp
      obtain ⟨cs, sub, b, base, C, tyy, fz, hk, hx, hw, hle, hcc⟩ := readP_inv hr (he t) hp
      rw [getL_eq] at hk
      split at hk
      · rename_i v0 hv0
        have hlt : sub < cs.length := by
          rcases Nat.lt_or_ge sub cs.length with h | h
          · exact h
          · rw [List.getElem?_eq_none h] at hv0; cases hv0
        have hy : C[base + sub]? = some C[base + sub] := Array.getElem?_eq_getElem (by omega)
        obtain ⟨vs, xs, hk, hrun, hl, hv⟩ := resK_run hr he r rs' _ hc' hk
        refine ⟨_, C[base + sub] :: xs, hk, ?_, by simp [hl], fun j v x q1 q2 => ?_⟩
        · rw [List.mapM_cons, Sem.run_bind]
          have hcell : w.cell? ⟨b, base + sub, none⟩ = some C[base + sub] := by simp [World.cell?, hw, hy]
          have hhead : (do loadVar ty (← asAddr (tmps.getD t undef)) : Sem Value).run P w = .ok C[base + sub] w := by
            simp only [Sem.run_bind, hx, asAddr, Sem.run_pure, Result.andThen_ok, loadVar, isAgg_run hag, Bool.false_eq_true, if_false, run_load, hcell]
          refine (congrArg (fun r => Result.andThen r _) hhead).trans ?_
          simp only [Result.andThen_ok, Sem.run_bind, hrun, Sem.run_pure]
        · cases j with
          | zero => simp at q1 q2; subst q1; subst q2; exact hcc sub _ _ hv0 hy
          | succ j => exact hv j v x (by simpa using q1) (by simpa using q2)
      · exact hk.elim
    · cases hc

theorem results_run {P : Program} {fn : Func} {c : Cx} {h : Heap} {w : World} {e : Env} {tmps : Array Value} (hr : Rep c h w) (he : ER c h w e tmps) {rs : List RV} {R : AEnd → Heap → Prop} (hc : cRes P fn.results.toList = some rs)
    (hp : resK rs e h fun vs => match vs with | [v] => R (.ret v) h | vs => R (.ret (.tup vs)) h) : ∃ v x, R (.ret v) h ∧ (results fn tmps).run P w = .ok x w ∧ VR c h w v x := by
  obtain ⟨vs, xs, hk, hrun, hl, hv⟩ := resK_run hr he fn.results.toList rs _ hc hp
  have hres : (results fn tmps).run P w = .ok (if hh : xs.toArray.size = 1 then xs.toArray[0] else .tuple xs.toArray) w := by
    unfold results
    rw [Sem.run_bind, Array.mapM_eq_mapM_toList, Sem.run_map]
    exact congrArg (fun r => Result.andThen (Result.andThen r _) _) hrun
  rw [hres]
  split at hk
  · rename_i v
    obtain ⟨x, rfl⟩ : ∃ x, xs = [x] := List.length_eq_one_iff.1 (by simpa using hl)
    exact ⟨v, x, hk, by simp, hv 0 v x rfl rfl⟩
  · rename_i hne
    refine ⟨_, _, hk, rfl, ?_⟩
    rw [dif_neg (fun hh => ?_)]
    · exact .tup _ _ (by simp [hl]) fun i v x h1 h2 => hv i v x h1 (by simpa using h2)
    · have : vs.length = 1 := by rw [← hl]; simpa using hh
      obtain ⟨v, rfl⟩ := List.length_eq_one_iff.1 this
      exact hne v rfl

theorem argEnv_get : ∀ (l : List SV) (i t : Nat), Env.get (argEnv i l) t = if i ≤ t then l.getD (t - i) .undef else .undef
  | [], i, t => by simp [argEnv, Env.get]
  | v :: r, i, t => by
    unfold argEnv Env.get
    rcases beq_cases i t with ⟨h, h'⟩ | ⟨h, h'⟩ <;> rw [h]
    · subst h'; simp
    · simp only [cond_false]
      rw [argEnv_get r (i + 1) t]
      by_cases hle : i ≤ t
      · rw [if_pos hle, if_pos (by omega)]
        have : t - i = (t - (i + 1)) + 1 := by omega
        rw [this]
        simp
      · rw [if_neg hle, if_neg (by omega)]

/-- A function's contract, by the symbolic run of its code. -/
theorem acall_of_awpC {P : Program} {Γ : CallR} {Λ : LoopR} (hΓ : Γ.Ok P) (hΛ : ∀ b Q e h, Λ b Q e h → ALoop P b Q e h) {f : FuncId} {fn : Func} {code : Code} {ac : ACode} {rs : List RV} {args : List SV} {h : Heap} {R : AEnd → Heap → Prop} (hm : P.follows .mixedOrders = true) (hf : P.funcs[f]? = some fn) (hb : fn.body = some code)
    (ho : ordsOk ac = true) (hc : erase ac = cCode P fn.ntmps code) (hrs : cRes P fn.results.toList = some rs) (hn : Nat.ble args.length fn.ntmps = true) (hp : awpC P Γ Λ ac (finQ rs R) (argEnv 0 args) h) : ACall P f args h R := by
  refine ⟨fun c w xs hr hs hv => ?_⟩
  have hn := Nat.le_of_ble_eq_true hn
  refine calls_of_wp hf hb (wp_mono (awpC_sound (n := fn.ntmps) hΓ hΛ hm code ac _ _ h ho hc hp c w { tmps := xs ++ Array.replicate (fn.ntmps - xs.size) undef, defers := [] } hr (fun t => ?_) (by simp; omega)) fun ex a' w' hpost => ?_)
  · rw [argEnv_get, if_pos (Nat.zero_le _), Nat.sub_zero]
    by_cases ht : t < args.length
    · have h1 : args[t]? = some args[t] := List.getElem?_eq_getElem ht
      have h2 : xs[t]? = some xs[t] := Array.getElem?_eq_getElem (by omega)
      have := hv t _ _ h1 h2
      have e1 : args.getD t .undef = args[t] := by simp [List.getD, h1]
      have e2 : (xs ++ Array.replicate (fn.ntmps - xs.size) undef).getD t undef = xs[t] := by
        rw [Array.getD_eq_getD_getElem?, Array.getElem?_append_left (by omega), h2]; rfl
      rw [e1, e2]
      exact this
    · have e1 : args.getD t .undef = .undef := by simp [List.getD, List.getElem?_eq_none (Nat.le_of_not_lt ht)]
      rw [e1]
      exact .undef
  · obtain ⟨c', h', e', xx, hq, hr', hx', he', hn', hd', hex⟩ := hpost
    have fin : (resK rs e' h' fun vs => match vs with | [v] => R (.ret v) h' | vs => R (.ret (.tup vs)) h') → a'.defers = [] ∧ ∃ v, (results fn a'.tmps).run P w' = .ok v w' ∧ ∃ c' h' r, R r h' ∧ Rep c' h' w' ∧ Ext c h w c' h' w' ∧ match r with
      | .ret u => ∃ x, Ending.returned v = .returned x ∧ VR c' h' w' u x
      | .pan u => ∃ x, Ending.returned v = .panicked [{ v := x, recovered := false }] ∧ VR c' h' w' u x := fun hq => by
      obtain ⟨v, x, hR, hrun, hvx⟩ := results_run (P := P) (fn := fn) hr' he' hrs hq
      exact ⟨hd', x, hrun, c', h', .ret v, hR, hr', hx', x, rfl, hvx⟩
    cases ex with
    | normal => cases xx <;> first | exact hex.elim | exact fin hq
    | exit i => cases xx <;> first | exact hex.elim | exact hq.elim
    | goto l => cases xx <;> exact hex.elim
    | ret => cases xx <;> first | exact hex.elim | exact fin hq
    | panic ch =>
      cases xx <;> try exact hex.elim
      obtain ⟨x, rfl, hvx⟩ := hex
      exact ⟨hd', c', h', .pan _, hq, hr', hx', x, rfl, hvx⟩
    | outgrown => cases xx <;> exact hex.elim

/-- A function's contract, by the symbolic run of its code. -/
theorem acall_of_awp {P : Program} {f : FuncId} {fn : Func} {code : Code} {ac : ACode} {rs : List RV} {args : List SV} {h : Heap} {R : AEnd → Heap → Prop} (hm : P.follows .mixedOrders = true) (hf : P.funcs[f]? = some fn) (hb : fn.body = some code)
    (ho : ordsOk ac = true) (hc : erase ac = cCode P fn.ntmps code) (hrs : cRes P fn.results.toList = some rs) (hn : Nat.ble args.length fn.ntmps = true) (hp : awp P ac (finQ rs R) (argEnv 0 args) h) : ACall P f args h R :=
  acall_of_awpC (Γ := aCall P) (Λ := ALoop P) aCall_ok (fun _ _ _ _ h => h) hm hf hb ho hc hrs hn hp

theorem ACall.mono {P : Program} {f : FuncId} {args : List SV} {h : Heap} {R R' : AEnd → Heap → Prop} (hc : ACall P f args h R) (hR : ∀ r h', R r h' → R' r h') : ACall P f args h R' :=
  ⟨fun c w xs hr hs hv => (hc.calls c w xs hr hs hv).mono fun _ _ ⟨c', h', r, hk, rest⟩ => ⟨c', h', r, hR r h' hk, rest⟩⟩
end Ab
