/- Regions that draw their order: words on what an operation asks of the slots and of memory. -/
import Derived.Test.YtboinbjiemmggaaDoorAbO
namespace Ab
set_option linter.unusedVariables false
set_option linter.unusedSimpArgs false
open Go

def AOpd.use : AOpd → List Nat
  | .tmp t => [t]
  | .const _ => []
def optUse : Option AOpd → List Nat
  | some x => x.use
  | none => []
/-- The slots that an operation reads. -/
def AOp.uses : AOp → List Nat
  | .mov x | .box _ _ x | .boxR _ _ x | .loadS x | .loadA _ x | .un _ x | .conv _ x | .strMov x | .toStr x | .toBytes _ x | .mkIface _ x | .fieldAddr _ x | .fieldS _ x | .fieldA _ _ x | .extract x _ | .len _ x | .panic x | .nilChk x | .toUns x | .fromUns _ _ x | .noEsc x | .sliceData x | .capOf x | .rangeS x | .nextS x | .rangeM x | .nextM x | .entry x | .lenM x | .tyAs _ _ _ x | .mkNoZero _ x | .clr _ _ x => x.use
  | .pick c a b => c.use ++ (a.use ++ b.use)
  | .build _ parts => parts.flatMap fun p => p.2.2.use
  | .buildSlice _ _ _ _ parts => parts.flatMap fun p => p.2.use
  | .store _ x v => x.use ++ v.use
  | .bin _ x y | .eqA _ _ x y | .eqB _ x y | .eqP _ x y | .unsStr _ x y | .ext1 _ x y | .copyZ x y | .index x y | .mm _ x y | .eqI _ x y | .eqN _ x y | .mapGet _ _ _ x y => x.use ++ y.use
  | .mapSet _ m x v => m.use ++ (x.use ++ v.use)
  | .slice3 _ x lo hi mx => x.use ++ (optUse lo ++ (optUse hi ++ mx.use))
  | .mkMap | .rcv => []
  | .dfr f args => f.use ++ args.flatMap AOpd.use
  | .indexAddr _ x y | .indexArr _ _ x y | .makeSlice _ _ _ _ x y | .append _ _ _ x y => x.use ++ y.use
  | .mkFunc _ a b => a.flatMap AOpd.use ++ b.flatMap AOpd.use
  | .slice _ x lo hi | .sliceStr x lo hi | .sliceArr _ x lo hi => x.use ++ (optUse lo ++ optUse hi)
  | .call _ args => args.flatMap AOpd.use
  | .callv f args => f.use ++ args.flatMap AOpd.use
  | .bad => []
/-- 0: it asks nothing of memory; 1: it reads memory alone; 2: it acts. -/
def AOp.cls : AOp → Nat
  | .mov _ | .pick .. | .build .. | .bin .. | .eqA .. | .eqB .. | .un .. | .conv .. | .strMov _ | .mkFunc .. | .mkIface .. | .sliceStr .. | .fieldS .. | .fieldA .. | .index .. | .extract .. | .mm .. | .noEsc _ | .ext1 .. | .tyAs .. | .eqI .. | .bad => 0
  | .loadS _ | .loadA .. | .slice .. | .fieldAddr .. | .indexAddr .. | .indexArr .. | .len .. | .toStr .. | .nilChk .. | .toUns .. | .fromUns .. | .eqP .. | .sliceData .. | .capOf .. | .mapGet .. | .lenM .. | .slice3 .. | .eqN .. => 1
  | _ => 2

section
variable {P : Program} {Γ : CallR} {e e' : Env} {h : Heap} {k : SV → Heap → Prop} {kp : SV → Heap → Prop}

theorem ev_congr {x : AOpd} (hE : ∀ t ∈ x.use, Env.get e t = Env.get e' t) : x.ev e = x.ev e' := by
  cases x with
  | tmp t => exact hE t (by simp [AOpd.use])
  | const v => rfl
theorem evs_congr : ∀ {l : List AOpd}, (∀ t ∈ l.flatMap AOpd.use, Env.get e t = Env.get e' t) → l.map (AOpd.ev e) = l.map (AOpd.ev e')
  | [], _ => rfl
  | x :: r, hE => by
    simp only [List.flatMap_cons, List.mem_append] at hE
    rw [List.map_cons, List.map_cons, ev_congr fun t ht => hE t (.inl ht), evs_congr fun t ht => hE t (.inr ht)]
theorem oev_congr {d : Int} {x : Option AOpd} {K : Int → Prop} (hE : ∀ t ∈ optUse x, Env.get e t = Env.get e' t) : oevK e d x K = oevK e' d x K := by
  cases x with
  | none => rfl
  | some x => simp only [oevK, evK_eq, ev_congr (x := x) hE]
theorem parts_congr : ∀ {l : List (Nat × Nat × AOpd)} {cs : List SV} {K : List SV → Prop}, (∀ t ∈ l.flatMap (fun p => p.2.2.use), Env.get e t = Env.get e' t) → fillParts e l cs K = fillParts e' l cs K
  | [], _, _, _ => rfl
  | (off, sz, x) :: r, cs, K, hE => by
    simp only [List.flatMap_cons, List.mem_append] at hE
    simp only [fillParts, evK_eq, ev_congr (x := x) fun t ht => hE t (.inl ht), parts_congr (l := r) fun t ht => hE t (.inr ht)]
theorem elems_congr {sz : Nat} : ∀ {l : List (Nat × AOpd)} {cs : List SV} {K : List SV → Prop}, (∀ t ∈ l.flatMap (fun p => p.2.use), Env.get e t = Env.get e' t) → fillElems sz e l cs K = fillElems sz e' l cs K
  | [], _, _, _ => rfl
  | (i, x) :: r, cs, K, hE => by
    simp only [List.flatMap_cons, List.mem_append] at hE
    simp only [fillElems, evK_eq, ev_congr (x := x) fun t ht => hE t (.inl ht), elems_congr (l := r) fun t ht => hE t (.inr ht)]

/-- An operation asks the slots that it reads, and no other. -/
theorem aop_congr {o : AOp} (hE : ∀ t ∈ o.uses, Env.get e t = Env.get e' t) : aop P Γ o e h k kp = aop P Γ o e' h k kp := by
  cases o with
  | rangeS x | nextS x | rangeM x | nextM x | entry x | lenM x | tyAs _ _ _ x | mov x | box _ _ x | boxR _ _ x | nilChk x | toUns x | fromUns _ _ x | noEsc x | sliceData x | capOf x | mkNoZero _ x | clr _ _ x | loadS x | loadA _ x | un _ x | conv _ x | strMov x | mkIface _ x | fieldAddr _ x | fieldS _ x | fieldA _ _ x | extract x _ | len _ x | panic x =>
    simp only [aop, evK_eq, ev_congr (x := x) hE]
  | toStr x | toBytes _ x => simp only [aop, evK_eq, ev_congr (x := x) hE]
  | pick c a b =>
    simp only [AOp.uses, List.mem_append] at hE
    simp only [aop, evK_eq, ev_congr (x := c) fun t ht => hE t (.inl ht), ev_congr (x := a) fun t ht => hE t (.inr (.inl ht)), ev_congr (x := b) fun t ht => hE t (.inr (.inr ht))]
  | build z parts => simp only [aop]; exact parts_congr hE
  | buildSlice ty sz z n parts => simp only [aop, replK_eq]; exact elems_congr hE
  | store n x y | bin _ x y | eqA _ _ x y | eqB _ x y | eqP _ x y | unsStr _ x y | ext1 _ x y | copyZ x y | eqI _ x y | eqN _ x y | mapGet _ _ _ x y | index x y | mm _ x y | indexAddr _ x y | indexArr _ _ x y | makeSlice _ _ _ _ x y | append _ _ _ x y =>
    simp only [AOp.uses, List.mem_append] at hE
    simp only [aop, evK_eq, ev_congr (x := x) fun t ht => hE t (.inl ht), ev_congr (x := y) fun t ht => hE t (.inr ht)]
  | mapSet _ m x v =>
    simp only [AOp.uses, List.mem_append] at hE
    simp only [aop, evK_eq, ev_congr (x := m) fun t ht => hE t (.inl ht), ev_congr (x := x) fun t ht => hE t (.inr (.inl ht)), ev_congr (x := v) fun t ht => hE t (.inr (.inr ht))]
  | slice3 sz x lo hi mx =>
    simp only [AOp.uses, List.mem_append] at hE
    simp only [aop, evK_eq, ev_congr (x := x) fun t ht => hE t (.inl ht), oev_congr (x := lo) fun t ht => hE t (.inr (.inl ht)), oev_congr (x := hi) fun t ht => hE t (.inr (.inr (.inl ht))), oev_congr (x := some mx) fun t ht => hE t (.inr (.inr (.inr ht)))]
  | mkMap | rcv | dfr _ _ => rfl
  | mkFunc fn a b =>
    simp only [AOp.uses, List.mem_append] at hE
    simp only [aop, evsK_eq, evs_congr (l := a) fun t ht => hE t (.inl ht), evs_congr (l := b) fun t ht => hE t (.inr ht)]
  | slice sz x lo hi | sliceStr x lo hi | sliceArr n x lo hi =>
    simp only [AOp.uses, List.mem_append] at hE
    simp only [aop, evK_eq, ev_congr (x := x) fun t ht => hE t (.inl ht), oev_congr (x := lo) fun t ht => hE t (.inr (.inl ht)), oev_congr (x := hi) fun t ht => hE t (.inr (.inr ht))]
  | call f args => simp only [aop, evsK_eq, evs_congr (l := args) hE]
  | callv f args =>
    simp only [AOp.uses, List.mem_append] at hE
    simp only [aop, evK_eq, evsK_eq, ev_congr (x := f) fun t ht => hE t (.inl ht), evs_congr (l := args) fun t ht => hE t (.inr ht)]
  | bad => rfl

theorem cellsK_and {v : SV} {p : List SV → Prop} (h : v.cellsK p) : p v.cells ∧ ∀ q : List SV → Prop, q v.cells → v.cellsK q := by
  obtain ⟨hu, hp⟩ := cellsK_iff.1 h
  exact ⟨hp, fun q hq => cellsK_iff.2 ⟨hu, hq⟩⟩

/-- It comes to one value, whatever is asked of that. -/
def Det (A : (SV → Prop) → Prop) (K : SV → Prop) : Prop := ∃ v, K v ∧ A (fun v' => v' = v)

theorem readP_det {p : SV} {K : List SV → Nat → Prop} (hp : readP h p K) : ∃ cs sub, K cs sub ∧ ∀ K' : List SV → Nat → Prop, K' cs sub → readP h p K' := by
  unfold readP at hp
  split at hp
  · obtain ⟨h1, h2⟩ := cellsK_and hp
    exact ⟨_, _, h1, fun K' hk => by unfold readP; exact h2 _ hk⟩
  · rename_i g
    split at hp
    · rename_i v hv
      obtain ⟨h1, h2⟩ := cellsK_and hp
      exact ⟨_, _, h1, fun K' hk => by unfold readP; simp only [hv]; exact h2 _ hk⟩
    · exact hp.elim
  · rename_i i g idx sub
    obtain ⟨n, l⟩ := h
    simp only [lookO_eq] at hp
    split at hp
    · rename_i o ho
      split at hp
      · rename_i g' sz elems sk
        replace hp := asr_iff.1 hp
        obtain ⟨hg, hp⟩ := hp
        split at hp
        · rename_i v hv
          obtain ⟨h1, h2⟩ := cellsK_and hp
          refine ⟨_, _, h1, fun K' hk => ?_⟩
          unfold readP
          simp only [lookO_eq, ho, hv]
          exact asr_iff.2 ⟨hg, h2 _ hk⟩
        · exact hp.elim
      · exact hp.elim
    · exact hp.elim
  · exact hp.elim

theorem arith_det {op : BinOp} {a b : IntKind} {x y : Int} {K : SV → Prop} (hp : arith op a b x y K) : ∃ v, K v ∧ ∀ K' : SV → Prop, K' v → arith op a b x y K' := by
  unfold arith at hp
  split at hp
  · replace hp := asr_iff.1 hp; exact ⟨_, hp.2, fun K' hk => asr_iff.2 ⟨hp.1, hk⟩⟩
  · replace hp := asr_iff.1 hp; exact ⟨_, hp.2, fun K' hk => asr_iff.2 ⟨hp.1, hk⟩⟩
  · rename_i hs1 hs2
    replace hp := asr_iff.1 hp
    obtain ⟨h1, hp⟩ := hp
    have hrw : ∀ K' : SV → Prop, arith op a b x y K' = asr (kEq a b) (match op with
      | .add => K' (.int a (a.wrap (x + y)))
      | .sub => K' (.int a (a.wrap (x - y)))
      | .mul => K' (.int a (a.wrap (x * y)))
      | .quo => asr (!decide (y = 0)) (K' (.int a (a.wrap (x.tdiv y))))
      | .rem => asr (!decide (y = 0)) (K' (.int a (x.tmod y)))
      | .eql => K' (.bool (x == y))
      | .neq => K' (.bool (x != y))
      | .lss => K' (.bool (decide (x < y)))
      | .leq => K' (.bool (decide (x ≤ y)))
      | .gtr => K' (.bool (decide (y < x)))
      | .geq => K' (.bool (decide (y ≤ x)))
      | .and => K' (.int a (bitsI .and a x y))
      | .or => K' (.int a (bitsI .or a x y))
      | .xor => K' (.int a (bitsI .xor a x y))
      | .andNot => K' (.int a (bitsI .andNot a x y))
      | _ => False) := fun K' => by cases op <;> first | rfl | exact absurd rfl hs1 | exact absurd rfl hs2
    cases op <;> first
      | exact absurd rfl hs1
      | exact absurd rfl hs2
      | (exact ⟨_, hp, fun K' hk => by rw [hrw]; exact asr_iff.2 ⟨h1, hk⟩⟩)
      | (replace hp := asr_iff.1 hp; exact ⟨_, hp.2, fun K' hk => by rw [hrw]; exact asr_iff.2 ⟨h1, asr_iff.2 ⟨hp.1, hk⟩⟩⟩)
theorem strOp_det {op : BinOp} {x y : List UInt8} {K : SV → Prop} (hp : strOp op x y K) : ∃ v, K v ∧ ∀ K' : SV → Prop, K' v → strOp op x y K' := by
  cases op <;> simp only [strOp] at hp ⊢ <;> first
    | exact hp.elim
    | exact ⟨_, hp, fun K' hk => hk⟩
    | (replace hp := asr_iff.1 hp; exact ⟨_, hp.2, fun K' hk => asr_iff.2 ⟨hp.1, hk⟩⟩)
theorem parts_det : ∀ {l : List (Nat × Nat × AOpd)} {cs : List SV} {K : List SV → Prop}, fillParts e l cs K → ∃ cs', K cs' ∧ ∀ K' : List SV → Prop, K' cs' → fillParts e l cs K'
  | [], cs, K, hp => ⟨cs, hp, fun K' hk => hk⟩
  | (off, sz, x) :: r, cs, K, hp => by
    simp only [fillParts, evK_eq] at hp ⊢
    obtain ⟨h1, h2⟩ := cellsK_and hp
    replace h1 := asr_iff.1 h1
    obtain ⟨h3, h1⟩ := h1
    obtain ⟨h4, h1⟩ := setRun_iff.1 h1
    obtain ⟨cs', hk, hd⟩ := parts_det h1
    exact ⟨cs', hk, fun K' hk' => h2 _ (asr_iff.2 ⟨h3, setRun_iff.2 ⟨h4, hd K' hk'⟩⟩)⟩
theorem oev_det {d : Int} {x : Option AOpd} {K : Int → Prop} (hp : oevK e d x K) : ∃ n, K n ∧ ∀ K' : Int → Prop, K' n → oevK e d x K' := by
  cases x with
  | none => exact ⟨d, hp, fun K' hk => hk⟩
  | some x =>
    simp only [oevK, evK_eq] at hp ⊢
    split at hp
    · exact ⟨_, hp, fun K' hk => hk⟩
    · exact hp.elim
theorem idxK_det {i g idx sub j sz : Nat} {K : SV → Prop} (hp : idxK h i g idx sub j sz K) : ∃ v, K v ∧ ∀ K' : SV → Prop, K' v → idxK h i g idx sub j sz K' := by
  obtain ⟨n, l⟩ := h
  simp only [idxK, lookO_eq] at hp ⊢
  split at hp
  · rename_i o ho
    split at hp
    · rename_i g' sz' elems sk
      replace hp := asr_iff.1 hp
      obtain ⟨hg, hp⟩ := hp
      cases hs : Nat.beq sz' sz
      · rw [hs] at hp
        exact ⟨_, hp, fun K' hk => by simp only [ho]; exact asr_iff.2 ⟨hg, hk⟩⟩
      · rw [hs] at hp
        exact ⟨_, hp, fun K' hk => by simp only [ho]; exact asr_iff.2 ⟨hg, hk⟩⟩
    · exact hp.elim
  · exact hp.elim
theorem liveK_det {i g : Nat} {p : Prop} (hp : liveK h i g p) : p ∧ ∀ q : Prop, q → liveK h i g q := by
  obtain ⟨hp', sz, elems, sk, ho⟩ := liveK_inv hp
  refine ⟨hp', fun q hq => ?_⟩
  obtain ⟨n, l⟩ := h
  unfold liveK
  simp only [lookO_eq]
  have ho' : objL l i = some (.vec g sz elems sk) := ho
  rw [ho']
  exact asr_iff.2 ⟨by simp, hq⟩

theorem eqPK_det {x y : SV} {K : Bool → Prop} (hp : eqPK h x y K) : ∃ b, K b ∧ ∀ K' : Bool → Prop, K' b → eqPK h x y K' := by
  unfold eqPK at hp ⊢
  split at hp
  · exact ⟨_, hp, fun K' hk => hk⟩
  · obtain ⟨hp, dl⟩ := liveK_det hp; exact ⟨_, hp, fun K' hk => dl _ hk⟩
  · obtain ⟨hp, dl⟩ := liveK_det hp; exact ⟨_, hp, fun K' hk => dl _ hk⟩
  · replace hp := asr_iff.1 hp
    obtain ⟨h1, hp⟩ := hp
    obtain ⟨hp, dl⟩ := liveK_det hp; exact ⟨_, hp, fun K' hk => asr_iff.2 ⟨h1, dl _ hk⟩⟩
  · exact hp.elim
theorem elemsK_det {sz : Nat} {x : SV} {K : List SV → Prop} (hp : elemsK h sz x K) : ∃ xs, K xs ∧ ∀ K' : List SV → Prop, K' xs → elemsK h sz x K' := by
  unfold elemsK at hp ⊢
  split at hp
  · exact ⟨_, hp, fun K' hk => hk⟩
  · replace hp := asr_iff.1 hp
    obtain ⟨h1, hp⟩ := hp
    rw [strK_eq] at hp
    exact ⟨_, hp, fun K' hk => asr_iff.2 ⟨h1, by rw [strK_eq]; exact hk⟩⟩
  · replace hp := asr_iff.1 hp
    obtain ⟨h1, hp⟩ := hp
    rw [rangeK_eq] at hp
    exact ⟨_, hp, fun K' hk => asr_iff.2 ⟨h1, by rw [rangeK_eq]; exact hk⟩⟩
  · replace hp := asr_iff.1 hp
    obtain ⟨h1, hp⟩ := hp
    obtain ⟨n, l⟩ := h
    simp only [lookO_eq] at hp
    split at hp
    · rename_i ob hob
      split at hp
      · replace hp := asr_iff.1 hp
        obtain ⟨h2, hp⟩ := hp
        obtain ⟨h3, hp⟩ := dropN_iff.1 hp
        obtain ⟨h4, hp⟩ := takeN_iff.1 hp
        refine ⟨_, hp, fun K' hk => asr_iff.2 ⟨h1, ?_⟩⟩
        simp only [lookO_eq, hob]
        exact asr_iff.2 ⟨h2, dropN_iff.2 ⟨h3, takeN_iff.2 ⟨h4, hk⟩⟩⟩
      · exact hp.elim
    · exact hp.elim
  · exact hp.elim

theorem findK_det {kk : SV} : ∀ {es : List (SV × SV × Nat)} {i : Nat} {K : Option (Nat × SV) → Prop}, findK kk es i K → ∃ r, K r ∧ ∀ K' : Option (Nat × SV) → Prop, K' r → findK kk es i K'
  | [], i, K, hp => ⟨none, hp, fun K' hk => hk⟩
  | (a, v, s) :: r, i, K, hp => by
    unfold findK at hp
    split at hp
    · rename_i b hb
      rcases brE hp with ⟨rfl, hp⟩ | ⟨rfl, hp⟩
      · exact ⟨_, hp, fun K' hk => by unfold findK; rw [hb]; exact hk⟩
      · obtain ⟨r', h1, h2⟩ := findK_det hp
        exact ⟨r', h1, fun K' hk => by unfold findK; rw [hb]; exact h2 K' hk⟩
    · exact hp.elim
theorem aop_det0 {o : AOp} (hc : o.cls = 0) (hp : aop P Γ o e h k kp) : ∃ v, k v h ∧ ∀ (h' : Heap) (K' kp' : SV → Heap → Prop), K' v h' → aop P Γ o e h' K' kp' := by
  cases o <;> simp only [AOp.cls, reduceCtorEq] at hc <;> try omega
  case mov x => simp only [aop, evK_eq] at hp ⊢; exact ⟨_, hp, fun h' K' kp' hk => hk⟩
  case pick c a b =>
    simp only [aop, evK_eq] at hp ⊢
    split at hp
    · rename_i x _
      cases x
      · exact ⟨_, hp, fun h' K' kp' hk => hk⟩
      · exact ⟨_, hp, fun h' K' kp' hk => hk⟩
    · exact hp.elim
  case build z parts =>
    simp only [aop] at hp ⊢
    obtain ⟨cs, hk, hd⟩ := parts_det hp
    exact ⟨_, hk, fun h' K' kp' hk' => hd _ hk'⟩
  case bin op x y =>
    simp only [aop, evK_eq] at hp ⊢
    split at hp
    · obtain ⟨v, hk, hd⟩ := arith_det hp; exact ⟨v, hk, fun h' K' kp' hk' => hd _ hk'⟩
    · obtain ⟨v, hk, hd⟩ := strOp_det hp; exact ⟨v, hk, fun h' K' kp' hk' => hd _ hk'⟩
    · exact hp.elim
  case eqA neg ks x y =>
    simp only [aop, evK_eq] at hp ⊢
    split at hp
    · split at hp
      · rename_i p hq
        cases neg <;> exact ⟨_, hp, fun h' K' kp' hk => by simpa only [hq] using hk⟩
      · exact hp.elim
    · exact hp.elim
  case eqB neg x y =>
    simp only [aop, evK_eq] at hp ⊢
    split at hp
    · cases neg <;> exact ⟨_, hp, fun h' K' kp' hk => hk⟩
    · exact hp.elim
  case un op x =>
    simp only [aop, evK_eq] at hp ⊢
    split at hp <;> first | exact ⟨_, hp, fun h' K' kp' hk => hk⟩ | exact hp.elim
  case conv kk x =>
    simp only [aop, evK_eq] at hp ⊢
    split at hp <;> first | exact ⟨_, hp, fun h' K' kp' hk => hk⟩ | exact hp.elim
  case strMov x =>
    simp only [aop, evK_eq] at hp ⊢
    split at hp <;> first | exact ⟨_, hp, fun h' K' kp' hk => hk⟩ | exact hp.elim
  case mkFunc fn a b => simp only [aop, evsK_eq] at hp ⊢; exact ⟨_, hp, fun h' K' kp' hk => hk⟩
  case mkIface t x => simp only [aop, evK_eq] at hp ⊢; exact ⟨_, hp, fun h' K' kp' hk => hk⟩
  case sliceStr x lo hi =>
    simp only [aop, evK_eq] at hp ⊢
    split at hp
    · obtain ⟨l, h1, d1⟩ := oev_det hp
      obtain ⟨hh, h2, d2⟩ := oev_det h1
      replace h2 := asr_iff.1 h2
      exact ⟨_, h2.2, fun h' K' kp' hk => d1 _ (d2 _ (asr_iff.2 ⟨h2.1, hk⟩))⟩
    · exact hp.elim
  case fieldS off x =>
    simp only [aop, evK_eq] at hp ⊢
    split at hp
    · split at hp
      · rename_i v hv; exact ⟨_, hp, fun h' K' kp' hk => by simpa only [hv] using hk⟩
      · exact hp.elim
    · exact hp.elim
  case fieldA off n x =>
    simp only [aop, evK_eq] at hp ⊢
    split at hp
    · obtain ⟨h1, hp⟩ := dropN_iff.1 hp
      obtain ⟨h2, hp⟩ := takeN_iff.1 hp
      exact ⟨_, hp, fun h' K' kp' hk => dropN_iff.2 ⟨h1, takeN_iff.2 ⟨h2, hk⟩⟩⟩
    · exact hp.elim
  case index x i =>
    simp only [aop, evK_eq] at hp ⊢
    split at hp
    · replace hp := asr_iff.1 hp; exact ⟨_, hp.2, fun h' K' kp' hk => asr_iff.2 ⟨hp.1, hk⟩⟩
    · exact hp.elim
  case extract x i =>
    simp only [aop, evK_eq] at hp ⊢
    split at hp
    · split at hp
      · rename_i v hv; exact ⟨_, hp, fun h' K' kp' hk => by simpa only [hv] using hk⟩
      · exact hp.elim
    · exact hp.elim
  case mm m x y =>
    simp only [aop, evK_eq] at hp ⊢
    split at hp
    · cases m <;> exact ⟨_, hp, fun h' K' kp' hk => hk⟩
    · exact hp.elim
  case ext1 id x y =>
    simp only [aop, evK_eq] at hp ⊢
    split at hp
    · exact ⟨_, hp, fun h' K' kp' hk => hk⟩
    · exact hp.elim
  case tyAs t z ok x =>
    simp only [aop, evK_eq] at hp ⊢
    split at hp
    · rename_i u v _
      rcases brE hp with ⟨hb, hp⟩ | ⟨hb, hp⟩ <;> rw [hb] <;> cases ok <;> first | exact hp.elim | exact ⟨_, hp, fun h' K' kp' hk => hk⟩
    · cases ok <;> first | exact hp.elim | exact ⟨_, hp, fun h' K' kp' hk => hk⟩
    · exact hp.elim
  case eqI neg x y =>
    simp only [aop, evK_eq] at hp ⊢
    split at hp <;> first | exact hp.elim | (cases neg <;> exact ⟨_, hp, fun h' K' kp' hk => hk⟩)
  case noEsc x => simp only [aop, evK_eq] at hp ⊢; exact ⟨_, hp, fun h' K' kp' hk => hk⟩
  case bad => exact hp.elim

theorem aop_det1 {o : AOp} (hc : o.cls ≤ 1) (hp : aop P Γ o e h k kp) : ∃ v, k v h ∧ ∀ (K' kp' : SV → Heap → Prop), K' v h → aop P Γ o e h K' kp' := by
  rcases Nat.lt_or_ge o.cls 1 with h0 | h1
  · obtain ⟨v, hk, hd⟩ := aop_det0 (by omega) hp
    exact ⟨v, hk, fun K' kp' hk' => hd h K' kp' hk'⟩
  have hc : o.cls = 1 := by omega
  clear h1
  cases o <;> simp only [AOp.cls, reduceCtorEq] at hc <;> try omega
  case loadS x =>
    simp only [aop, evK_eq] at hp ⊢
    obtain ⟨cs, sub, hk, hd⟩ := readP_det hp
    split at hk
    · rename_i v hv; exact ⟨_, hk, fun K' kp' hk' => hd _ (by simpa only [hv] using hk')⟩
    · exact hk.elim
  case loadA n x =>
    simp only [aop, evK_eq] at hp ⊢
    obtain ⟨cs, sub, hk, hd⟩ := readP_det hp
    obtain ⟨h1, hk⟩ := dropN_iff.1 hk
    obtain ⟨h2, hk⟩ := takeN_iff.1 hk
    exact ⟨_, hk, fun K' kp' hk' => hd _ (dropN_iff.2 ⟨h1, takeN_iff.2 ⟨h2, hk'⟩⟩)⟩
  case slice sz x lo hi =>
    simp only [aop, evK_eq] at hp ⊢
    split at hp
    · replace hp := asr_iff.1 hp
      obtain ⟨ha, hp⟩ := hp
      obtain ⟨l, h1, d1⟩ := oev_det hp
      obtain ⟨hh, h2, d2⟩ := oev_det h1
      replace h2 := asr_iff.1 h2
      exact ⟨_, h2.2, fun K' kp' hk => asr_iff.2 ⟨ha, d1 _ (d2 _ (asr_iff.2 ⟨h2.1, hk⟩))⟩⟩
    · rename_i cap _
      replace hp := asr_iff.1 hp
      obtain ⟨ha, hp⟩ := hp
      obtain ⟨hp, dl⟩ := liveK_det hp
      obtain ⟨l, h1, d1⟩ := oev_det hp
      obtain ⟨hh, h2, d2⟩ := oev_det h1
      replace h2 := asr_iff.1 h2
      obtain ⟨hb, h2⟩ := h2
      cases cap with
      | none =>
        replace h2 := asr_iff.1 h2
        exact ⟨_, h2.2, fun K' kp' hk => asr_iff.2 ⟨ha, dl _ (d1 _ (d2 _ (asr_iff.2 ⟨hb, asr_iff.2 ⟨h2.1, hk⟩⟩)))⟩⟩
      | some c =>
        replace h2 := asr_iff.1 h2
        exact ⟨_, h2.2, fun K' kp' hk => asr_iff.2 ⟨ha, dl _ (d1 _ (d2 _ (asr_iff.2 ⟨hb, asr_iff.2 ⟨h2.1, hk⟩⟩)))⟩⟩
    · obtain ⟨l, h1, d1⟩ := oev_det hp
      obtain ⟨hh, h2, d2⟩ := oev_det h1
      replace h2 := asr_iff.1 h2
      exact ⟨_, h2.2, fun K' kp' hk => d1 _ (d2 _ (asr_iff.2 ⟨h2.1, hk⟩))⟩
    · exact hp.elim
  case slice3 sz x lo hi mx =>
    simp only [aop, evK_eq] at hp ⊢
    split at hp
    · replace hp := asr_iff.1 hp
      obtain ⟨ha, hp⟩ := hp
      obtain ⟨l, h1, d1⟩ := oev_det hp
      obtain ⟨hh, h2, d2⟩ := oev_det h1
      obtain ⟨mm, h3, d3⟩ := oev_det h2
      replace h3 := asr_iff.1 h3
      exact ⟨_, h3.2, fun K' kp' hk => asr_iff.2 ⟨ha, d1 _ (d2 _ (d3 _ (asr_iff.2 ⟨h3.1, hk⟩)))⟩⟩
    · replace hp := asr_iff.1 hp
      obtain ⟨ha, hp⟩ := hp
      obtain ⟨hp, dl⟩ := liveK_det hp
      obtain ⟨l, h1, d1⟩ := oev_det hp
      obtain ⟨hh, h2, d2⟩ := oev_det h1
      obtain ⟨mm, h3, d3⟩ := oev_det h2
      replace h3 := asr_iff.1 h3
      exact ⟨_, h3.2, fun K' kp' hk => asr_iff.2 ⟨ha, dl _ (d1 _ (d2 _ (d3 _ (asr_iff.2 ⟨h3.1, hk⟩))))⟩⟩
    · obtain ⟨l, h1, d1⟩ := oev_det hp
      obtain ⟨hh, h2, d2⟩ := oev_det h1
      obtain ⟨mm, h3, d3⟩ := oev_det h2
      replace h3 := asr_iff.1 h3
      exact ⟨_, h3.2, fun K' kp' hk => d1 _ (d2 _ (d3 _ (asr_iff.2 ⟨h3.1, hk⟩)))⟩
    · exact hp.elim
  case mapGet z ok m x _ =>
    simp only [aop, evK_eq] at hp ⊢
    obtain ⟨n, l⟩ := h
    split at hp
    · rename_i hev
      replace hp := asr_iff.1 hp
      cases ok <;> exact ⟨_, hp.2, fun K' kp' hk => asr_iff.2 ⟨hp.1, hk⟩⟩
    · rename_i i g n' l' hev hh
      cases hh
      simp only [lookO_eq] at hp ⊢
      split at hp
      · rename_i ob hob
        split at hp
        · rename_i es cl
          replace hp := asr_iff.1 hp
          obtain ⟨r, hk, hd⟩ := findK_det hp.2
          cases r with
          | none => cases ok <;> exact ⟨_, hk, fun K' kp' hk' => asr_iff.2 ⟨hp.1, hd _ hk'⟩⟩
          | some p => cases ok <;> exact ⟨_, hk, fun K' kp' hk' => asr_iff.2 ⟨hp.1, hd _ hk'⟩⟩
        · exact hp.elim
      · exact hp.elim
    · exact hp.elim
  case lenM x =>
    simp only [aop, evK_eq] at hp ⊢
    obtain ⟨n, l⟩ := h
    split at hp
    · rename_i hev
      exact ⟨_, hp, fun K' kp' hk => hk⟩
    · rename_i i g n' l' hev hh
      cases hh
      simp only [lookO_eq] at hp ⊢
      split at hp
      · rename_i ob hob
        split at hp
        · rename_i es cl
          replace hp := asr_iff.1 hp
          exact ⟨_, hp.2, fun K' kp' hk' => asr_iff.2 ⟨hp.1, hk'⟩⟩
        · exact hp.elim
      · exact hp.elim
    · exact hp.elim
  case fieldAddr off x =>
    simp only [aop, evK_eq] at hp ⊢
    split at hp
    · obtain ⟨hp, dl⟩ := liveK_det hp; exact ⟨_, hp, fun K' kp' hk => dl _ hk⟩
    · exact ⟨_, hp, fun K' kp' hk => hk⟩
    · exact hp.elim
  case indexAddr sz x i =>
    simp only [aop, evK_eq] at hp ⊢
    split at hp
    · replace hp := asr_iff.1 hp
      obtain ⟨ha, hp⟩ := hp
      replace hp := asr_iff.1 hp
      exact ⟨_, hp.2, fun K' kp' hk => asr_iff.2 ⟨ha, asr_iff.2 ⟨hp.1, hk⟩⟩⟩
    · replace hp := asr_iff.1 hp
      obtain ⟨ha, hp⟩ := hp
      obtain ⟨hp, dl⟩ := liveK_det hp
      replace hp := asr_iff.1 hp
      exact ⟨_, hp.2, fun K' kp' hk => asr_iff.2 ⟨ha, dl _ (asr_iff.2 ⟨hp.1, hk⟩)⟩⟩
    · exact hp.elim
  case indexArr n sz x i =>
    simp only [aop, evK_eq] at hp ⊢
    split at hp
    · replace hp := asr_iff.1 hp
      obtain ⟨ha, hp⟩ := hp
      obtain ⟨v, hk, hd⟩ := idxK_det hp
      exact ⟨_, hk, fun K' kp' hk' => asr_iff.2 ⟨ha, hd (fun v => K' v h) hk'⟩⟩
    · replace hp := asr_iff.1 hp
      obtain ⟨ha, hp⟩ := hp
      split at hp
      · rename_i v hv
        exact ⟨_, hp, fun K' kp' hk => asr_iff.2 ⟨ha, hk⟩⟩
      · exact hp.elim
    · replace hp := asr_iff.1 hp
      exact ⟨_, hp.2, fun K' kp' hk => asr_iff.2 ⟨hp.1, hk⟩⟩
    · exact hp.elim
  case eqN neg x y _ =>
    cases neg <;> simp only [aop, evK_eq] at hp ⊢ <;> split at hp <;> first
      | exact hp.elim
      | exact ⟨_, hp, fun K' kp' hk => hk⟩
      | (obtain ⟨hp, dl⟩ := liveK_det hp; exact ⟨_, hp, fun K' kp' hk => dl _ hk⟩)
      | (replace hp := asr_iff.1 hp; exact ⟨_, hp.2, fun K' kp' hk => asr_iff.2 ⟨hp.1, hk⟩⟩)
  case nilChk x =>
    simp only [aop, evK_eq] at hp ⊢
    split at hp
    · obtain ⟨hp, dl⟩ := liveK_det hp; exact ⟨_, hp, fun K' kp' hk => dl _ hk⟩
    · exact ⟨_, hp, fun K' kp' hk => hk⟩
    · exact ⟨_, hp, fun K' kp' hk => hk⟩
    · exact hp.elim
  case capOf x =>
    simp only [aop, evK_eq] at hp ⊢
    split at hp
    · exact ⟨_, hp, fun K' kp' hk => hk⟩
    · obtain ⟨hp, dl⟩ := liveK_det hp; exact ⟨_, hp, fun K' kp' hk => dl _ hk⟩
    · exact hp.elim
  case sliceData x =>
    simp only [aop, evK_eq] at hp ⊢
    split at hp
    · exact ⟨_, hp, fun K' kp' hk => hk⟩
    · replace hp := asr_iff.1 hp
      obtain ⟨h1, hp⟩ := hp
      obtain ⟨hp, dl⟩ := liveF_det hp; exact ⟨_, hp, fun K' kp' hk => asr_iff.2 ⟨h1, dl _ hk⟩⟩
    · exact hp.elim
  case toUns x =>
    obtain ⟨n, l⟩ := h
    simp only [aop, evK_eq] at hp ⊢
    split at hp
    · exact ⟨_, hp, fun K' kp' hk => hk⟩
    · rename_i hh
      cases hh
      simp only [lookO_eq] at hp
      split at hp
      · rename_i ob hob
        split at hp
        · replace hp := asr_iff.1 hp
          exact ⟨_, hp.2, fun K' kp' hk => by simp only [lookO_eq, hob]; exact asr_iff.2 ⟨hp.1, hk⟩⟩
        · exact hp.elim
      · exact hp.elim
    · exact hp.elim
  case fromUns u sz x =>
    obtain ⟨n, l⟩ := h
    simp only [aop, evK_eq] at hp ⊢
    split at hp
    · exact ⟨_, hp, fun K' kp' hk => hk⟩
    · rename_i hh
      cases hh
      simp only [lookO_eq] at hp
      split at hp
      · rename_i ob hob
        split at hp
        · replace hp := asr_iff.1 hp
          exact ⟨_, hp.2, fun K' kp' hk => by simp only [lookO_eq, hob]; exact asr_iff.2 ⟨hp.1, hk⟩⟩
        · exact hp.elim
      · exact hp.elim
    · exact hp.elim
  case eqP neg x y _ =>
    simp only [aop, evK_eq] at hp ⊢
    cases neg
    · obtain ⟨b, hk, hd⟩ := eqPK_det hp
      exact ⟨_, hk, fun K' kp' hk' => hd _ hk'⟩
    · obtain ⟨b, hk, hd⟩ := eqPK_det hp
      exact ⟨_, hk, fun K' kp' hk' => hd _ hk'⟩
  case toStr x =>
    simp only [aop, evK_eq] at hp ⊢
    split at hp
    · exact hp.elim
    · rename_i hne
      obtain ⟨xs, h1, d1⟩ := elemsK_det hp
      obtain ⟨ns, rfl, h2⟩ := bytesK_inv h1
      exact ⟨_, h2, fun K' kp' hk => d1 _ (bytesK_of hk)⟩
  case len b x =>
    simp only [aop, evK_eq] at hp ⊢
    split at hp
    · exact ⟨_, hp, fun K' kp' hk => hk⟩
    · exact ⟨_, hp, fun K' kp' hk => hk⟩
    · obtain ⟨hp, dl⟩ := liveF_det hp; exact ⟨_, hp, fun K' kp' hk => dl _ hk⟩
    · exact ⟨_, hp, fun K' kp' hk => hk⟩
    · exact hp.elim
end
end Ab
