/- Regions that draw their order: the proof. -/
import Derived.Test.YtcklfcagailoiaaAbY
namespace Ab
open Go

def PredV (P : Program) (o : AOper) (e : Env) (h : Heap) : Prop := ∃ v, (∀ t, o.dst = some t → Env.get e t = v) ∧
  ((wantA e o.guard = some true ∧ ∀ K' kp' : SV → Heap → Prop, K' v h → aop P o.op e h K' kp') ∨ (wantA e o.guard = some false ∧ v = .tup []))

theorem wantA_congr {e e' : Env} {o : AOper} (hE : ∀ t ∈ o.reads, Env.get e t = Env.get e' t) : wantA e o.guard = wantA e' o.guard := by
  unfold wantA
  cases hg : o.guard with
  | none => rfl
  | some gw =>
    obtain ⟨t, want⟩ := gw
    dsimp only
    rw [hE t (by simp [AOper.reads, hg])]
theorem aopR_congr {P : Program} {e e' : Env} {h : Heap} {o : AOper} {K kp : SV → Heap → Prop} (hE : ∀ t ∈ o.reads, Env.get e t = Env.get e' t) : aop P o.op e h K kp = aop P o.op e' h K kp :=
  aop_congr fun t ht => hE t (by simp [AOper.reads, ht])
theorem PredV.congr {P : Program} {e e' : Env} {h : Heap} {o : AOper} (hE : ∀ t ∈ o.reads, Env.get e t = Env.get e' t) (hd : ∀ t, o.dst = some t → Env.get e t = Env.get e' t) (hp : PredV P o e h) : PredV P o e' h := by
  obtain ⟨v, h1, h2⟩ := hp
  refine ⟨v, fun t ht => by rw [← hd t ht]; exact h1 t ht, ?_⟩
  rw [← wantA_congr hE]
  rcases h2 with ⟨h2, h3⟩ | h2
  · exact .inl ⟨h2, fun K' kp' hk => by rw [← aopR_congr hE]; exact h3 K' kp' hk⟩
  · exact .inr h2
theorem PredV.heap {P : Program} {e : Env} {h h' : Heap} {o : AOper} (hc : o.op.cls = 0) (hp : PredV P o e h) : PredV P o e h' := by
  obtain ⟨v, h1, h2⟩ := hp
  refine ⟨v, h1, ?_⟩
  rcases h2 with ⟨h2, h3⟩ | h2
  · refine .inl ⟨h2, fun K' kp' hk => ?_⟩
    obtain ⟨v', hv', hd⟩ := aop_det0 (k := fun u _ => u = v) hc (h3 (fun u _ => u = v) (fun _ _ => False) rfl)
    subst hv'
    exact hd h' K' kp' hk
  · exact .inr h2

theorem putE_get (e : Env) (d : Option Nat) (v : SV) (t : Nat) : (d = some t → Env.get (putE e d v) t = v) ∧ (d ≠ some t → Env.get (putE e d v) t = Env.get e t) := by
  cases d with
  | none => exact ⟨(fun h => by cases h), fun _ => rfl⟩
  | some u =>
    simp only [putE, get_put]
    refine ⟨fun h => ?_, fun h => ?_⟩
    · cases h; rw [if_pos rfl]
    · rw [if_neg (fun e => h (by rw [e]))]

theorem againK_inv {P : Program} {L : List AOper} {p : Prop} : ∀ {ag : List Nat} {e : Env} {h : Heap}, (∀ i ∈ ag, ∀ o, L[i]? = some o → o.op.cls ≤ 1) → againK P L ag e h p →
    p ∧ ∀ i ∈ ag, ∀ o, L[i]? = some o → wantA e o.guard = some true → PredV P o e h
  | [], e, h, _, hp => ⟨hp, fun i hi => by cases hi⟩
  | j :: r, e, h, hc, hp => by
    rw [againK_cons] at hp
    rw [getL_eq] at hp
    split at hp
    · exact hp.elim
    · rename_i o ho
      have hcr : ∀ i ∈ r, ∀ o, L[i]? = some o → o.op.cls ≤ 1 := fun i hi => hc i (by simp [hi])
      have fin : ∀ {e1 : Env}, EqE e e1 → (wantA e o.guard = some true → PredV P o e h) → (p ∧ ∀ i ∈ r, ∀ o, L[i]? = some o → wantA e1 o.guard = some true → PredV P o e1 h) →
          p ∧ ∀ i ∈ j :: r, ∀ o, L[i]? = some o → wantA e o.guard = some true → PredV P o e h := by
        intro e1 hE hpo ⟨hpp, hr⟩
        refine ⟨hpp, fun i hi o' ho' hw => ?_⟩
        rcases List.mem_cons.1 hi with rfl | hi
        · rw [ho] at ho'; cases ho'; exact hpo hw
        · exact (hr i hi o' ho' (by rw [← wantA_congr (fun t _ => hE t)]; exact hw)).congr (fun t _ => (hE t).symm) (fun t _ => (hE t).symm)
      rcases guardK_inv hp with ⟨hw, e1, hE, hp⟩ | ⟨hw, e1, hE, hp⟩
      · obtain ⟨v, hv, hd⟩ := aop_det1 (hc j (by simp) o ho) hp
        have hpred : (∀ t, o.dst = some t → Env.get e t = v) → PredV P o e h := fun hdst => ⟨v, hdst, .inl ⟨hw, fun K' kp' hk => by rw [aopR_congr (fun t _ => hE t)]; exact hd K' kp' hk⟩⟩
        split at hv
        · rename_i t hdst
          rw [getK_eq] at hv
          obtain ⟨hvt, hv⟩ := hv
          exact fin hE (fun _ => hpred fun t' ht' => by rw [hdst] at ht'; cases ht'; rw [hE, ← hvt]) (againK_inv hcr hv)
        · rename_i hdst
          exact fin hE (fun _ => hpred fun t' ht' => by rw [hdst] at ht'; cases ht') (againK_inv hcr hv)
      · exact fin hE (fun hw' => by rw [hw] at hw'; cases hw') (againK_inv hcr hp)

theorem pairwise_or {α : Type} {R : α → α → Prop} : ∀ {l : List α}, l.Pairwise R → ∀ a ∈ l, ∀ b ∈ l, a = b ∨ R a b ∨ R b a
  | [], _, a, ha, _, _ => by cases ha
  | x :: r, .cons hx hr, a, ha, b, hb => by
    rcases List.mem_cons.1 ha with rfl | ha' <;> rcases List.mem_cons.1 hb with rfl | hb'
    · exact .inl rfl
    · exact .inr (.inl (hx b hb'))
    · exact .inr (.inr (hx a ha'))
    · exact pairwise_or hr a ha' b hb'

/-- What the look at an order shows, in words. -/
structure OrdF (L : List AOper) (ms : List Nat) (ord : List Ent) : Prop where
  mask : ∀ (j : Nat) (o : AOper), L[j]? = some o → ms.getD j 0 = preMask ms o.pre ∧ ∀ k ∈ o.pre, k < j
  pw : ord.Pairwise fun a b => rOk L ms a b = true
  ent : ∀ b ∈ ord, eOk L b = true
  all : ∀ i, i < L.length → ∃ b ∈ ord, b.1 = i
theorem ordOk_spec {L : List AOper} {ord : List Ent} (h : ordOk L ord = true) : OrdF L (mkMasks L []) ord := by
  simp only [ordOk, Bool.and_eq_true] at h
  obtain ⟨⟨⟨h1, h2⟩, h3⟩, h4⟩ := h
  refine ⟨fun j o hj => ?_, pwAll_pairwise h2, fun b hb => List.all_eq_true.1 h3 b hb, fun i hi => ?_⟩
  · have hlt : j < L.length := by
      rcases Nat.lt_or_ge j L.length with h | h
      · exact h
      · rw [List.getElem?_eq_none h] at hj; cases hj
    have := List.all_eq_true.1 h1 j (List.mem_range.2 hlt)
    rw [hj] at this
    simp only [Bool.and_eq_true] at this
    refine ⟨Nat.eq_of_beq_eq_true this.1, fun k hk => ?_⟩
    have := List.all_eq_true.1 this.2 k hk
    exact Nat.lt_of_succ_le (by simpa [Nat.blt] using this)
  · have := List.all_eq_true.1 h4 i (List.mem_range.2 hi)
    obtain ⟨b, hb, he⟩ := List.any_eq_true.1 this
    exact ⟨b, hb, Nat.eq_of_beq_eq_true he⟩

structure ROk (L : List AOper) (ms : List Nat) (a b : Ent) (oa ob : AOper) : Prop where
  ne : a.1 ≠ b.1
  dst : ∀ t, oa.dst = some t → ob.dst ≠ some t
  ab : ∀ t, oa.dst = some t → t ∈ ob.reads → Nat.testBit (ms.getD b.1 0) a.1 = true
  ba : ∀ t, ob.dst = some t → t ∈ oa.reads → b.2.1 = true ∧ Nat.testBit (ms.getD b.1 0) a.1 = true
  st : a.2.1 = true → Nat.testBit (ms.getD b.1 0) a.1 = true
  rd : a.2.1 = false → b.2.1 = true → Nat.testBit (ms.getD b.1 0) a.1 = true ∨ oa.op.cls = 0 ∨ a.1 ∈ b.2.2
theorem rOk_spec {L : List AOper} {ms : List Nat} {a b : Ent} (h : rOk L ms a b = true) : ∃ oa ob, L[a.1]? = some oa ∧ L[b.1]? = some ob ∧ ROk L ms a b oa ob := by
  unfold rOk at h
  split at h
  · rename_i oa ob ha hb
    refine ⟨oa, ob, ha, hb, ?_⟩
    simp only [Bool.and_eq_true] at h
    obtain ⟨⟨⟨⟨h1, h2⟩, h3⟩, h4⟩, h5⟩ := h
    refine ⟨fun e => by rw [e] at h1; simp at h1, fun t ht => ?_, fun t ht hr => ?_, fun t ht hr => ?_, fun hs => ?_, fun hs hb => ?_⟩
    · rw [ht] at h2
      simp only [Bool.and_eq_true] at h2
      intro e
      rw [e] at h2
      simp at h2
    · rw [ht] at h2
      simp only [Bool.and_eq_true, Bool.or_eq_true, Bool.not_eq_true'] at h2
      rcases h2.2 with h2 | h2
      · rw [memN_iff.2 hr] at h2; cases h2
      · exact h2
    · rw [ht] at h3
      simp only [Bool.and_eq_true, Bool.or_eq_true, Bool.not_eq_true'] at h3
      rcases h3 with h3 | h3
      · rw [memN_iff.2 hr] at h3; cases h3
      · exact h3
    · rw [hs] at h4; simpa using h4
    · rw [hs, hb] at h5
      simp only [Bool.not_true, Bool.false_or, Bool.or_eq_true] at h5
      rcases h5 with h5 | h5 | h5
      · exact .inl h5
      · exact .inr (.inl (Nat.eq_of_beq_eq_true h5))
      · exact .inr (.inr (memN_iff.1 h5))
  · cases h

structure EOk (L : List AOper) (a : Ent) (o : AOper) : Prop where
  good : o.op.isBad = false
  cls : a.2.1 = false → o.op.cls ≤ 1
  again : a.2.1 = false → a.2.2 = []
  self : a.2.1 = false → ∀ t, o.dst = some t → t ∉ o.reads
  ag : ∀ i ∈ a.2.2, ∀ oi, L[i]? = some oi → oi.op.cls ≤ 1
theorem eOk_spec {L : List AOper} {a : Ent} (h : eOk L a = true) : ∃ o, L[a.1]? = some o ∧ EOk L a o := by
  unfold eOk at h
  split at h
  · rename_i o ho
    refine ⟨o, ho, ?_⟩
    simp only [Bool.and_eq_true, Bool.or_eq_true, Bool.not_eq_true'] at h
    obtain ⟨⟨⟨h1, h2⟩, h3⟩, h4⟩ := h
    refine ⟨h1, fun hs => ?_, fun hs => ?_, fun hs t ht hr => ?_, fun i hi oi hoi => ?_⟩
    · rcases h2 with h2 | h2
      · exact Nat.le_of_ble_eq_true h2
      · rw [hs] at h2; cases h2
    · rcases h3 with h3 | h3
      · rw [hs] at h3; cases h3
      · exact List.isEmpty_iff.1 h3.1
    · rcases h3 with h3 | h3
      · rw [hs] at h3; cases h3
      · have := h3.2
        rw [ht] at this
        simp only [Bool.not_eq_true'] at this
        rw [memN_iff.2 hr] at this; cases this
    · have := List.all_eq_true.1 h4 i hi
      rw [hoi] at this
      exact Nat.le_of_ble_eq_true this
  · cases h

section
variable {P : Program} {n : Nat} {ops : Array Oper} {ord : List Ent} {ms : List Nat} {k : Env → Heap → Prop} {kp : SV → Env → Heap → Prop} {Q : Exit → Act → World → Prop} {c0 : Cx} {h0 : Heap} {w0 : World} {ds : List Deferred}

abbrev LL (P : Program) (n : Nat) (ops : Array Oper) : List AOper := ops.toList.map (cOper P n ops true)

/-- In the midst of a region: what has run ('listed'), how far the one order has been gone through ('done'). -/
structure DInv (P : Program) (n : Nat) (ops : Array Oper) (ord : List Ent) (k : Env → Heap → Prop) (kp : SV → Env → Heap → Prop) (c0 : Cx) (h0 : Heap) (w0 : World) (ds : List Deferred)
    (done rest : List Ent) (listed : Array Bool) (c : Cx) (h : Heap) (w : World) (e : Env) (a : Act) : Prop where
  split : ord = done ++ rest
  rep : Rep c h w
  ext : Ext c0 h0 w0 c h w
  size : a.tmps.size = n
  defers : a.defers = ds
  lsize : listed.size = ops.size
  cont : aopsD P (LL P n ops) rest e h k kp
  dc : ∀ i, listed.getD i false = true → ∃ b ∈ done, b.1 = i
  sd : ∀ b ∈ done, b.2.1 = true → listed.getD b.1 false = true
  closed : ∀ i, listed.getD i false = true → ∀ o, (LL P n ops)[i]? = some o → ∀ j ∈ o.pre, listed.getD j false = true
  T : ∀ t, (∀ b ∈ done, listed.getD b.1 false = false → ∀ o, (LL P n ops)[b.1]? = some o → o.dst ≠ some t) → VR c h w (Env.get e t) (a.tmps.getD t undef)
  Pd : ∀ b ∈ done, listed.getD b.1 false = false → ∀ o, (LL P n ops)[b.1]? = some o → PredV P o e h

theorem anc_listed (hF : OrdF (LL P n ops) ms ord) {listed : Array Bool} (hcl : ∀ i, listed.getD i false = true → ∀ o, (LL P n ops)[i]? = some o → ∀ j ∈ o.pre, listed.getD j false = true) :
    ∀ (m j : Nat) (o : AOper), j < m → (LL P n ops)[j]? = some o → (∀ i ∈ o.pre, listed.getD i false = true) → ∀ i, Nat.testBit (ms.getD j 0) i = true → listed.getD i false = true
  | 0, j, o, hj, _, _, _, _ => by omega
  | m+1, j, o, hj, ho, hpre, i, hb => by
    obtain ⟨h1, h2⟩ := hF.mask j o ho
    rw [h1] at hb
    rcases preMask_bit ms i o.pre 0 hb with hb | ⟨q, hq, hb⟩
    · simp at hb
    · rcases hb with rfl | hb
      · exact hpre _ hq
      · have hqj := h2 q hq
        have hjl : j < (LL P n ops).length := by
          rcases Nat.lt_or_ge j (LL P n ops).length with h | h
          · exact h
          · rw [List.getElem?_eq_none h] at ho; cases ho
        have hqo : (LL P n ops)[q]? = some (LL P n ops)[q] := List.getElem?_eq_getElem (by omega)
        exact anc_listed hF hcl m q _ (by omega) hqo (hcl q (hpre q hq) _ hqo) i hb

theorem head_new (hF : OrdF (LL P n ops) ms ord) {done rest : List Ent} {listed : Array Bool} {c : Cx} {h : Heap} {w : World} {e : Env} {a : Act} (hd : DInv P n ops ord k kp c0 h0 w0 ds done rest listed c h w e a) {b : Ent} (hb : b ∈ rest) : listed.getD b.1 false = false := by
  cases hl : listed.getD b.1 false with
  | false => rfl
  | true =>
    obtain ⟨b', hb', he⟩ := hd.dc b.1 hl
    have hpw := hF.pw
    rw [hd.split, List.pairwise_append] at hpw
    obtain ⟨oa, ob, _, _, hr⟩ := rOk_spec (hpw.2.2 b' hb' b hb)
    exact absurd he hr.ne

/-- One step of the one order, past an operation that does not act. -/
theorem advance1 (hF : OrdF (LL P n ops) ms ord) {done r : List Ent} {listed : Array Bool} {c : Cx} {h : Heap} {w : World} {e : Env} {a : Act} {j : Nat} {ag : List Nat}
    (hd : DInv P n ops ord k kp c0 h0 w0 ds done ((j, false, ag) :: r) listed c h w e a) : ∃ e', DInv P n ops ord k kp c0 h0 w0 ds (done ++ [(j, false, ag)]) r listed c h w e' a := by
  have hnew := head_new hF hd (b := (j, false, ag)) (by simp)
  have hmem : (j, false, ag) ∈ ord := by rw [hd.split]; simp
  obtain ⟨o, ho, hE⟩ := eOk_spec (hF.ent _ hmem)
  have hag : ag = [] := hE.again rfl
  subst hag
  have hcont := hd.cont
  rw [aopsD_cons] at hcont
  rw [getL_eq] at hcont
  have ho' : (LL P n ops)[j]? = some o := ho
  rw [ho'] at hcont
  dsimp only at hcont
  have hpw := hF.pw
  rw [hd.split, List.pairwise_append] at hpw
  have hR : ∀ b ∈ done, ∃ ob, (LL P n ops)[b.1]? = some ob ∧ ROk (LL P n ops) ms b (j, false, []) ob o := fun b hb => by
    obtain ⟨oa, ob, h1, h2, h3⟩ := rOk_spec (hpw.2.2 b hb (j, false, []) (by simp))
    have h2' : (LL P n ops)[j]? = some ob := h2
    rw [ho'] at h2'; cases h2'
    exact ⟨oa, h1, h3⟩
  -- behind the step, whatever it came to
  have fin : ∀ (e1 : Env) (v : SV), EqE e e1 → ((wantA e o.guard = some true ∧ ∀ K' kp' : SV → Heap → Prop, K' v h → aop P o.op e1 h K' kp') ∨ (wantA e o.guard = some false ∧ v = .tup [])) → aopsD P (LL P n ops) r (putE e1 o.dst v) h k kp →
      ∃ e', DInv P n ops ord k kp c0 h0 w0 ds (done ++ [(j, false, [])]) r listed c h w e' a := by
    intro e1 v hE1 hcase hc
    have hget : ∀ t, o.dst ≠ some t → Env.get (putE e1 o.dst v) t = Env.get e t := fun t ht => by rw [(putE_get e1 o.dst v t).2 ht, ← hE1]
    have hread : ∀ t ∈ o.reads, Env.get e t = Env.get (putE e1 o.dst v) t := fun t ht => (hget t fun hdst => hE.self rfl t hdst ht).symm
    refine ⟨_, by rw [hd.split]; simp, hd.rep, hd.ext, hd.size, hd.defers, hd.lsize, hc, fun i hi => ?_, fun b hb hs => ?_, hd.closed, fun t ht => ?_, fun b hb hl ob hob => ?_⟩
    · obtain ⟨b, hb, he⟩ := hd.dc i hi
      exact ⟨b, by simp [hb], he⟩
    · rcases List.mem_append.1 hb with hb | hb
      · exact hd.sd b hb hs
      · simp only [List.mem_singleton] at hb; subst hb; cases hs
    · have hne : o.dst ≠ some t := ht (j, false, []) (by simp) hnew o ho
      rw [hget t hne]
      exact hd.T t fun b hb => ht b (by simp [hb])
    · rcases List.mem_append.1 hb with hb | hb
      · obtain ⟨ob', hob', hr⟩ := hR b hb
        rw [hob] at hob'; cases hob'
        refine (hd.Pd b hb hl ob hob).congr (fun t ht => (hget t fun hdst => ?_).symm) (fun t ht => (hget t fun hdst => hr.dst t ht hdst).symm)
        have := (hr.ba t hdst ht).1
        cases this
      · simp only [List.mem_singleton] at hb
        subst hb
        have hob' : (LL P n ops)[j]? = some ob := hob
        rw [ho'] at hob'; cases hob'
        refine ⟨v, fun t ht => (putE_get e1 o.dst v t).1 ht, ?_⟩
        rw [← wantA_congr hread]
        rcases hcase with ⟨h1, h2⟩ | h1
        · exact .inl ⟨h1, fun K' kp' hk => by rw [← aopR_congr hread, aopR_congr (fun t _ => hE1 t)]; exact h2 K' kp' hk⟩
        · exact .inr h1
  rcases guardK_inv hcont with ⟨hw, e1, hE1, hp⟩ | ⟨hw, e1, hE1, hp⟩
  · obtain ⟨v, hv, hdet⟩ := aop_det1 (hE.cls rfl) hp
    rw [putD_eq] at hv
    exact fin e1 v hE1 (.inl ⟨hw, hdet⟩) hv
  · rw [putD_eq] at hp
    exact fin e1 _ hE1 (.inr ⟨hw, rfl⟩) hp

theorem advance (hF : OrdF (LL P n ops) ms ord) : ∀ (rest done : List Ent) {listed : Array Bool} {c : Cx} {h : Heap} {w : World} {e : Env} {a : Act}, DInv P n ops ord k kp c0 h0 w0 ds done rest listed c h w e a →
    ∃ done' rest' e', DInv P n ops ord k kp c0 h0 w0 ds done' rest' listed c h w e' a ∧ (rest' = [] ∨ ∃ j ag r, rest' = (j, true, ag) :: r)
  | [], done, listed, c, h, w, e, a, hd => ⟨done, [], e, hd, .inl rfl⟩
  | (j, true, ag) :: r, done, listed, c, h, w, e, a, hd => ⟨done, _, e, hd, .inr ⟨j, ag, r, rfl⟩⟩
  | (j, false, ag) :: r, done, listed, c, h, w, e, a, hd => by
    obtain ⟨e', hd'⟩ := advance1 hF hd
    exact advance hF r _ hd'
end

theorem listed_set (listed : Array Bool) (i j : Nat) (hi : i < listed.size) : (listed.setIfInBounds i true).getD j false = if j = i then true else listed.getD j false := by
  rw [Array.getD_eq_getD_getElem?, Array.getElem?_setIfInBounds]
  by_cases h : j = i
  · subst h; simp [hi]
  · rw [if_neg (fun e => h e.symm), if_neg h, Array.getD_eq_getD_getElem?]

def unl (n : Nat) (listed : Array Bool) : Nat := ((List.range n).filter fun i => !listed.getD i false).length
theorem unl_zero {n : Nat} {listed : Array Bool} (h : unl n listed = 0) : ∀ i, i < n → listed.getD i false = true := by
  intro i hi
  unfold unl at h
  have := List.eq_nil_of_length_eq_zero h
  rw [List.filter_eq_nil_iff] at this
  have := this i (List.mem_range.2 hi)
  simpa using this
theorem filter_lt {α : Type} (p q : α → Bool) : ∀ (l : List α), (∀ x ∈ l, q x = true → p x = true) → (∃ x ∈ l, p x = true ∧ q x = false) → (l.filter q).length < (l.filter p).length
  | [], _, ⟨x, hx, _⟩ => by cases hx
  | y :: r, hpq, ⟨x, hx, hpx, hqx⟩ => by
    have hle : ∀ l : List α, (∀ x ∈ l, q x = true → p x = true) → (l.filter q).length ≤ (l.filter p).length := by
      intro l
      induction l with
      | nil => intro _; simp
      | cons z l ih =>
        intro hl
        have := ih fun x hx => hl x (by simp [hx])
        simp only [List.filter_cons]
        cases hq : q z
        · cases hp : p z <;> simp <;> omega
        · rw [hl z (by simp) hq]; simp; omega
    rcases List.mem_cons.1 hx with rfl | hx'
    · simp only [List.filter_cons, hpx, hqx]
      have := hle r fun x hx => hpq x (by simp [hx])
      simp; omega
    · have ih := filter_lt p q r (fun x hx => hpq x (by simp [hx])) ⟨x, hx', hpx, hqx⟩
      simp only [List.filter_cons]
      cases hq : q y
      · cases hp : p y <;> simp <;> omega
      · rw [hpq y (by simp) hq]; simp; omega
theorem unl_set {n : Nat} {listed : Array Bool} {i : Nat} (hi : i < n) (hs : i < listed.size) (hl : listed.getD i false = false) : unl n (listed.setIfInBounds i true) < unl n listed := by
  unfold unl
  refine filter_lt _ _ _ (fun j _ hj => ?_) ⟨i, List.mem_range.2 hi, by simpa using hl, by rw [listed_set _ _ _ hs]; simp⟩
  rw [listed_set _ _ _ hs] at hj
  by_cases h : j = i
  · subst h; simp at hj
  · rw [if_neg h] at hj; exact hj

theorem LL_get {P : Program} {n : Nat} {ops : Array Oper} {i : Nat} (hi : i < ops.size) : (LL P n ops)[i]? = some (cOper P n ops true ops[i]) := by
  simp [LL, hi]
theorem LL_len {P : Program} {n : Nat} {ops : Array Oper} : (LL P n ops).length = ops.size := by simp [LL]

theorem binds_eq (e : Edge) : bindsAny e = Region.binds .any e := by
  unfold bindsAny Region.binds
  cases e.ground <;> rfl

section
variable {P : Program} {n : Nat} {ops : Array Oper} {ord : List Ent} {ms : List Nat} {k : Env → Heap → Prop} {kp : SV → Env → Heap → Prop} {Q : Exit → Act → World → Prop} {c0 : Cx} {h0 : Heap} {w0 : World} {ds : List Deferred}

theorem ready_spec {listed : Array Bool} {i : Nat} (hs : listed.size = ops.size) (hi : i ∈ Region.ready .any ops listed) : ∃ hlt : i < ops.size, listed.getD i false = false ∧ ∀ e ∈ (ops[i]).after.toList, bindsAny e = true → listed.getD e.on false = true := by
  unfold Region.ready at hi
  obtain ⟨h1, h2⟩ := List.mem_filter.1 hi
  have hlt := List.mem_range.1 h1
  refine ⟨hlt, ?_⟩
  simp only [Bool.and_eq_true, Bool.not_eq_true'] at h2
  have hlt' : i < listed.size := by omega
  have e1 : ∀ d, listed.getD i d = listed[i] := fun d => by simp [Array.getD_eq_getD_getElem?, hlt']
  refine ⟨by rw [e1]; rw [e1] at h2; exact h2.1, fun e he hb => ?_⟩
  have h3 := h2.2
  rw [Array.getElem?_eq_getElem hlt] at h3
  simp only [Option.map_some, Option.getD_some] at h3
  rw [← Array.all_toList] at h3
  have := List.all_eq_true.1 h3 e he
  rw [← binds_eq, hb] at this
  simpa using this

theorem all_listed (hF : OrdF (LL P n ops) ms ord) {listed : Array Bool} (hs : listed.size = ops.size) (hr : Region.ready .any ops listed = []) : ∀ (m i : Nat), i < m → i < ops.size → listed.getD i false = true
  | 0, i, h, _ => by omega
  | m+1, i, h, hi => by
    cases hl : listed.getD i false with
    | true => rfl
    | false =>
      exfalso
      have hmem : i ∈ Region.ready .any ops listed := by
        unfold Region.ready
        refine List.mem_filter.2 ⟨List.mem_range.2 hi, ?_⟩
        have hlt' : i < listed.size := by omega
        have e1 : ∀ d, listed.getD i d = listed[i] := fun d => by simp [Array.getD_eq_getD_getElem?, hlt']
        rw [e1] at hl
        simp only [e1, hl, Bool.not_false, Bool.true_and]
        rw [Array.getElem?_eq_getElem hi]
        simp only [Option.map_some, Option.getD_some]
        rw [← Array.all_toList]
        refine List.all_eq_true.2 fun e he => ?_
        cases hb : Region.binds .any e with
        | false => rfl
        | true =>
          obtain ⟨b, hbm, hbe⟩ := hF.all i (by rw [LL_len]; exact hi)
          obtain ⟨o, ho, hE⟩ := eOk_spec (hF.ent b hbm)
          rw [hbe, LL_get hi] at ho
          cases ho
          obtain ⟨_, _, _, hpre, _⟩ := cOper_ok hE.good
          have hon : e.on ∈ (cOper P n ops true ops[i]).pre := by
            rw [hpre]
            exact List.mem_filterMap.2 ⟨e, he, by rw [binds_eq, hb]; rfl⟩
          have hlt := (hF.mask i _ (LL_get hi)).2 _ hon
          have := all_listed hF hs hr m e.on (by omega) (by omega)
          simpa using this
      rw [hr] at hmem
      cases hmem

theorem dmain (hF : OrdF (LL P n ops) ms ord)
    (hK : ∀ e h c a w, k e h → Rep c h w → Ext c0 h0 w0 c h w → ER c h w e a.tmps → a.tmps.size = n → a.defers = ds → Q .normal a w)
    (hKP : ∀ v x h c a w, kp v [] h → Rep c h w → Ext c0 h0 w0 c h w → a.tmps.size = n → a.defers = ds → VR c h w v x → Q (.panic [{ v := x, recovered := false }]) a w) (hr0 : Rep c0 h0 w0) :
    ∀ (fuel : Nat) (done rest : List Ent) (listed : Array Bool) (c : Cx) (h : Heap) (w : World) (e : Env) (a : Act), unl ops.size listed ≤ fuel → DInv P n ops ord k kp c0 h0 w0 ds done rest listed c h w e a → wpAny P .any ops Q fuel listed a w := by
  -- all have run: the end
  have hend : ∀ (done rest : List Ent) (listed : Array Bool) (c : Cx) (h : Heap) (w : World) (e : Env) (a : Act), (∀ i, i < ops.size → listed.getD i false = true) → DInv P n ops ord k kp c0 h0 w0 ds done rest listed c h w e a → Q .normal a w := by
    intro done rest listed c h w e a hall hd
    obtain ⟨done', rest', e', hd', hor⟩ := advance hF rest done hd
    have hlt : ∀ b ∈ ord, b.1 < ops.size := fun b hb => by
      obtain ⟨o, ho, _⟩ := eOk_spec (hF.ent b hb)
      rcases Nat.lt_or_ge b.1 (LL P n ops).length with h | h
      · rw [LL_len] at h; exact h
      · rw [List.getElem?_eq_none h] at ho; cases ho
    have hnil : rest' = [] := by
      rcases hor with h | ⟨j, ag, r, rfl⟩
      · exact h
      · have h1 := head_new hF hd' (b := (j, true, ag)) (by simp)
        have h2 := hall j (hlt (j, true, ag) (by rw [hd'.split]; simp))
        rw [h2] at h1; cases h1
    subst hnil
    have hc := hd'.cont
    exact hK e' h c a w hc hd'.rep hd'.ext (fun t => hd'.T t fun b hb hl => by
      have := hall b.1 (hlt b (by rw [hd'.split]; simp [hb]))
      rw [this] at hl; cases hl) hd'.size hd'.defers
  intro fuel
  induction fuel with
  | zero =>
    intro done rest listed c h w e a hu hd
    have hall := unl_zero (Nat.le_zero.1 hu)
    refine ⟨List.eq_nil_iff_forall_not_mem.2 fun i hi => ?_, hend done rest listed c h w e a hall hd⟩
    obtain ⟨hlt, hl, _⟩ := ready_spec hd.lsize hi
    rw [hall i hlt] at hl; cases hl
  | succ fuel ih =>
    intro done rest listed c h w e a hu hd
    refine ⟨fun hr => hend done rest listed c h w e a (fun i hi => all_listed hF hd.lsize hr (i + 1) i (Nat.lt_succ_self _) hi) hd, fun i hi => ?_⟩
    obtain ⟨hlt, hl, hpre⟩ := ready_spec hd.lsize hi
    obtain ⟨done', rest', e', hd', hor⟩ := advance hF rest done hd
    clear hd
    have hLi := LL_get (P := P) (n := n) hlt
    obtain ⟨b, hbm, hbe⟩ := hF.all i (by rw [LL_len]; exact hlt)
    obtain ⟨o, ho, hE⟩ := eOk_spec (hF.ent b hbm)
    rw [hbe, hLi] at ho
    cases ho
    obtain ⟨hdst, hop, hdlt, hpr, _⟩ := cOper_ok hE.good
    have hpreL : ∀ j ∈ (cOper P n ops true ops[i]).pre, listed.getD j false = true := fun j hj => by
      rw [hpr] at hj
      obtain ⟨ed, hed, hbb⟩ := List.mem_filterMap.1 hj
      cases hbd : bindsAny ed
      · rw [hbd] at hbb; cases hbb
      · rw [hbd] at hbb
        simp only [cond_true, Option.some.injEq] at hbb
        rw [← hbb]; exact hpre ed hed hbd
    have hanc : ∀ q, Nat.testBit (ms.getD i 0) q = true → listed.getD q false = true := anc_listed hF hd'.closed (i + 1) i _ (Nat.lt_succ_self _) hLi hpreL
    have hil : i < listed.size := by rw [hd'.lsize]; exact hlt
    have hu' : unl ops.size (listed.setIfInBounds i true) ≤ fuel := by
      have := unl_set hlt hil hl
      omega
    have hget := fun j => listed_set listed i j hil
    have hmono : ∀ j, listed.getD j false = true → (listed.setIfInBounds i true).getD j false = true := fun j hj => by rw [hget]; split <;> simp [hj]
    have hun : ∀ j, (listed.setIfInBounds i true).getD j false = false → listed.getD j false = false ∧ j ≠ i := fun j hj => by
      rw [hget] at hj
      by_cases h : j = i
      · rw [if_pos h] at hj; cases hj
      · rw [if_neg h] at hj; exact ⟨hj, h⟩
    have hclosed : ∀ j, (listed.setIfInBounds i true).getD j false = true → ∀ o, (LL P n ops)[j]? = some o → ∀ q ∈ o.pre, (listed.setIfInBounds i true).getD q false = true := by
      intro j hj o ho q hq
      rw [hget] at hj
      by_cases h : j = i
      · subst h; rw [hLi] at ho; cases ho; exact hmono q (hpreL q hq)
      · rw [if_neg h] at hj; exact hmono q (hd'.closed j hj o ho q hq)
    have hls : (listed.setIfInBounds i true).size = ops.size := by simp [hd'.lsize]
    have hput : ∀ x t, (a.put ops[i].dst x).tmps.getD t undef = if ops[i].dst = some t then x else a.tmps.getD t undef := by
      intro x t
      cases hdd : ops[i].dst with
      | none => simp [Act.put]
      | some d =>
        simp only [Act.put, Array.getD_eq_getD_getElem?, Array.getElem?_setIfInBounds, Option.some.injEq]
        by_cases h : d = t
        · subst h
          have hd1 : d < a.tmps.size := by rw [hd'.size]; exact hdlt d hdd
          simp [hd1]
        · simp [h]
    have hpwd := hF.pw
    rw [hd'.split, List.pairwise_append] at hpwd
    by_cases hin : b ∈ done'
    · -- gone through already: what it reads is as it was told
      have hst : b.2.1 = false := by
        cases hs : b.2.1 with
        | false => rfl
        | true =>
          have := hd'.sd b hin hs
          rw [hbe, hl] at this; cases this
      obtain ⟨v, hv1, hv2⟩ := hd'.Pd b hin (by rw [hbe]; exact hl) _ (by rw [hbe]; exact hLi)
      have hT : ∀ t ∈ (cOper P n ops true ops[i]).reads, VR c h w (Env.get e' t) (a.tmps.getD t undef) := by
        intro t ht
        refine hd'.T t fun b' hb' hl' o' ho' hdd => ?_
        rcases pairwise_or hpwd.1 b' hb' b hin with rfl | hR | hR
        · rw [hbe, hLi] at ho'; cases ho'
          exact hE.self hst t hdd ht
        · obtain ⟨oa, ob, h1, h2, hr⟩ := rOk_spec hR
          rw [ho'] at h1; cases h1
          rw [hbe, hLi] at h2; cases h2
          have := hr.ab t hdd ht
          rw [hbe] at this
          rw [hanc _ this] at hl'; cases hl'
        · obtain ⟨oa, ob, h1, h2, hr⟩ := rOk_spec hR
          rw [ho'] at h2; cases h2
          rw [hbe, hLi] at h1; cases h1
          have := (hr.ba t hdd ht).1
          rw [hd'.sd b' hb' this] at hl'; cases hl'
      have hdc : ∀ j, (listed.setIfInBounds i true).getD j false = true → ∃ b ∈ done', b.1 = j := fun j hj => by
        rw [hget] at hj
        by_cases h : j = i
        · exact ⟨b, hin, by rw [hbe, h]⟩
        · rw [if_neg h] at hj; exact hd'.dc j hj
      have fin : ∀ (x : Value) (c' : Cx) (w' : World), Rep c' h w' → Ext c h w c' h w' → (∀ t, ops[i].dst = some t → VR c' h w' (Env.get e' t) x) → wpAny P .any ops Q fuel (listed.setIfInBounds i true) (a.put ops[i].dst x) w' := by
        intro x c' w' hr' hx' hxv
        refine ih done' rest' _ c' h w' e' _ hu' ⟨hd'.split, hr', hd'.ext.trans hr0 hx', by rw [put_size]; exact hd'.size, by rw [put_defers]; exact hd'.defers, hls, hd'.cont, hdc, fun b' hb' hs => hmono _ (hd'.sd b' hb' hs), hclosed, fun t ht => ?_, fun b' hb' hl' o' ho' => hd'.Pd b' hb' (hun _ hl').1 o' ho'⟩
        rw [hput]
        by_cases hdt : ops[i].dst = some t
        · rw [if_pos hdt]; exact hxv t hdt
        · rw [if_neg hdt]
          refine (hd'.T t fun b' hb' hl' o' ho' => ?_).mono hd'.rep hx'
          by_cases hbi : b'.1 = i
          · rw [hbi, hLi] at ho'; cases ho'
            rw [hdst]; exact hdt
          · exact ht b' hb' (by rw [hget, if_neg hbi]; exact hl') o' ho'
      rcases hv2 with ⟨hw, hv2⟩ | ⟨hw, rfl⟩
      · refine exec_op (b := true) (Array.getElem?_eq_getElem hlt) hE.good hd'.rep hT hd'.size hw (k := fun v' h' => v' = v ∧ h' = h) (kp := fun _ _ => False) (fun _ => hv2 _ _ ⟨rfl, rfl⟩) (fun _ v' x h' c' w' hk hr' hx' hvx => ?_) (fun _ v' x h' c' w' hk => hk.elim) (fun hf => by cases hf)
        obtain ⟨rfl, rfl⟩ := hk
        exact fin x c' w' hr' hx' fun t ht => by rw [hv1 t (by rw [hdst]; exact ht)]; exact hvx
      · refine exec_op (b := false) (Array.getElem?_eq_getElem hlt) hE.good hd'.rep hT hd'.size hw (k := fun _ _ => False) (kp := fun _ _ => False) (fun hf => by cases hf) (fun hf => by cases hf) (fun hf => by cases hf) (fun _ => ?_)
        exact fin _ c w hd'.rep .refl fun t ht => by rw [hv1 t (by rw [hdst]; exact ht)]; exact .pure (.tup _ _ rfl fun i v x hv => by simp at hv)
    · -- the next that acts
      have hbr : b ∈ rest' := by
        rw [hd'.split] at hbm
        rcases List.mem_append.1 hbm with h | h
        · exact absurd h hin
        · exact h
      rcases hor with rfl | ⟨j, ag, r, rfl⟩
      · cases hbr
      obtain rfl : b = (j, true, ag) := by
        rcases List.mem_cons.1 hbr with h | h
        · exact h
        · exfalso
          obtain ⟨oa, ob, h1, h2, hr⟩ := rOk_spec ((List.pairwise_cons.1 hpwd.2.1).1 b h)
          have := hr.st rfl
          rw [hbe] at this
          have hlj := hanc _ this
          have := head_new hF hd' (b := (j, true, ag)) (by simp)
          rw [hlj] at this; cases this
      have hji : j = i := hbe
      subst hji
      have hR : ∀ b' ∈ done', ∃ ob, (LL P n ops)[b'.1]? = some ob ∧ ROk (LL P n ops) ms b' (j, true, ag) ob (cOper P n ops true ops[j]) := fun b' hb' => by
        obtain ⟨oa, ob, h1, h2, h3⟩ := rOk_spec (hpwd.2.2 b' hb' (j, true, ag) (by simp))
        have h2' : (LL P n ops)[j]? = some ob := h2
        rw [hLi] at h2'; cases h2'
        exact ⟨oa, h1, h3⟩
      have hT : ∀ t ∈ (cOper P n ops true ops[j]).reads, VR c h w (Env.get e' t) (a.tmps.getD t undef) := by
        intro t ht
        refine hd'.T t fun b' hb' hl' o' ho' hdd => ?_
        obtain ⟨ob, hob, hr⟩ := hR b' hb'
        rw [ho'] at hob; cases hob
        rw [hanc _ (hr.ab t hdd ht)] at hl'; cases hl'
      have hcont := hd'.cont
      rw [aopsD_cons] at hcont
      rw [getL_eq, hLi] at hcont
      dsimp only at hcont
      have hdc : ∀ q, (listed.setIfInBounds j true).getD q false = true → ∃ b ∈ done' ++ [(j, true, ag)], b.1 = q := fun q hq => by
        rw [hget] at hq
        by_cases h : q = j
        · exact ⟨(j, true, ag), by simp, h.symm⟩
        · rw [if_neg h] at hq
          obtain ⟨b', hb', he⟩ := hd'.dc q hq
          exact ⟨b', by simp [hb'], he⟩
      have fin : ∀ (v : SV) (x : Value) (e1 : Env) (c' : Cx) (h' : Heap) (w' : World), EqE e' e1 → Rep c' h' w' → Ext c h w c' h' w' → VR c' h' w' v x → aopsD P (LL P n ops) r (putE e1 (cOper P n ops true ops[j]).dst v) h' k kp →
          (∀ b' ∈ done', (listed.setIfInBounds j true).getD b'.1 false = false → ∀ o', (LL P n ops)[b'.1]? = some o' → PredV P o' (putE e1 (cOper P n ops true ops[j]).dst v) h → PredV P o' (putE e1 (cOper P n ops true ops[j]).dst v) h') →
          wpAny P .any ops Q fuel (listed.setIfInBounds j true) (a.put ops[j].dst x) w' := by
        intro v x e1 c' h' w' hE1 hr' hx' hvx hc hpd
        have hget1 : ∀ t, (cOper P n ops true ops[j]).dst ≠ some t → Env.get (putE e1 (cOper P n ops true ops[j]).dst v) t = Env.get e' t := fun t ht => by rw [(putE_get e1 _ v t).2 ht, ← hE1]
        refine ih (done' ++ [(j, true, ag)]) r _ c' h' w' _ _ hu' ⟨by rw [hd'.split]; simp, hr', hd'.ext.trans hr0 hx', by rw [put_size]; exact hd'.size, by rw [put_defers]; exact hd'.defers, hls, hc, hdc, fun b' hb' hs => ?_, hclosed, fun t ht => ?_, fun b' hb' hl' o' ho' => ?_⟩
        · rcases List.mem_append.1 hb' with h | h
          · exact hmono _ (hd'.sd b' h hs)
          · simp only [List.mem_singleton] at h; subst h
            rw [hget, if_pos rfl]
        · rw [hput]
          by_cases hdt : ops[j].dst = some t
          · rw [if_pos hdt, (putE_get e1 _ v t).1 (by rw [hdst]; exact hdt)]; exact hvx
          · rw [if_neg hdt, hget1 t (by rw [hdst]; exact hdt)]
            refine (hd'.T t fun b' hb' hl' o' ho' => ht b' (by simp [hb']) ?_ o' ho').mono hd'.rep hx'
            rw [hget, if_neg (fun e => ?_)]
            · exact hl'
            · obtain ⟨ob, _, hr⟩ := hR b' hb'
              exact hr.ne e
        · rcases List.mem_append.1 hb' with h | h
          · obtain ⟨hl2, hne⟩ := hun _ hl'
            obtain ⟨ob, hob, hr⟩ := hR b' h
            rw [ho'] at hob; cases hob
            refine hpd b' h hl' o' ho' ((hd'.Pd b' h hl2 o' ho').congr (fun t ht => (hget1 t fun hdd => ?_).symm) fun t ht => (hget1 t fun hdd => hr.dst t ht hdd).symm)
            have := (hr.ba t hdd ht).2
            rw [hanc _ this] at hl2; cases hl2
          · simp only [List.mem_singleton] at h; subst h
            rw [hget, if_pos rfl] at hl'; cases hl'
      rcases guardK_inv hcont with ⟨hw, e1, hE1, hp⟩ | ⟨hw, e1, hE1, hp⟩
      · rw [aopR_congr (fun t _ => (hE1 t).symm)] at hp
        refine exec_op (b := true) (Array.getElem?_eq_getElem hlt) hE.good hd'.rep hT hd'.size hw (fun _ => hp) (fun _ v x h' c' w' hk hr' hx' hvx => ?_) (fun _ v x h' c' w' hk hr' hx' hvx => hKP v x h' c' a w' hk hr' (hd'.ext.trans hr0 hx') hd'.size hd'.defers hvx) (fun hf => by cases hf)
        rw [putD_eq] at hk
        obtain ⟨hc, hag⟩ := againK_inv (fun q hq oi hoi => hE.ag q hq oi hoi) hk
        refine fin v x e1 c' h' w' hE1 hr' hx' hvx hc fun b' hb' hl' o' ho' hold => ?_
        obtain ⟨hl2, hne⟩ := hun _ hl'
        obtain ⟨ob, hob, hr⟩ := hR b' hb'
        rw [ho'] at hob; cases hob
        have hns : b'.2.1 = false := by
          cases hs : b'.2.1 with
          | false => rfl
          | true => rw [hd'.sd b' hb' hs] at hl2; cases hl2
        rcases hr.rd hns rfl with h1 | h1 | h1
        · rw [hanc _ h1] at hl2; cases hl2
        · exact hold.heap h1
        · obtain ⟨v', q1, q2⟩ := hold
          rcases q2 with ⟨q2, _⟩ | q2
          · exact hag _ h1 o' ho' q2
          · exact ⟨v', q1, .inr q2⟩
      · rw [putD_eq] at hp
        refine exec_op (b := false) (Array.getElem?_eq_getElem hlt) hE.good hd'.rep hT hd'.size hw (k := fun _ _ => False) (kp := fun _ _ => False) (fun hf => by cases hf) (fun hf => by cases hf) (fun hf => by cases hf) (fun _ => ?_)
        exact fin (.tup []) undef e1 c h w hE1 hd'.rep .refl (.pure (.tup _ _ rfl fun i v x hv => by simp at hv)) hp fun _ _ _ _ _ hold => hold

/-- A region that draws its order. -/
theorem dregion_wp {id : Nat} (hm : P.follows .mixedOrders = true) (hok : ordOk (LL P n ops) ord = true) {c : Cx} {h : Heap} {w : World} {e : Env} {a : Act} (hp : aopsD P (LL P n ops) ord e h k kp) (hr : Rep c h w) (he : ER c h w e a.tmps) (hn : a.tmps.size = n)
    (hK : ∀ e' h' c' a' w', k e' h' → Rep c' h' w' → Ext c h w c' h' w' → ER c' h' w' e' a'.tmps → a'.tmps.size = n → a'.defers = a.defers → Q .normal a' w')
    (hKP : ∀ v x h' c' a' w', kp v [] h' → Rep c' h' w' → Ext c h w c' h' w' → a'.tmps.size = n → a'.defers = a.defers → VR c' h' w' v x → Q (.panic [{ v := x, recovered := false }]) a' w') :
    (Code.region id ops true).wp P Q a w := by
  refine wp_region_any hm ?_
  have hx : Ext c h w c h { w with drawn := w.drawn + 1 } := ⟨rfl, rfl, rfl, Nat.le_refl _, fun _ _ _ => rfl, fun _ _ => rfl, fun _ h => h, fun _ h => .inl h, Nat.le_refl _, fun _ o' _ h => ⟨o', h, Nat.le_refl _, rfl, fun _ => rfl⟩, fun _ o' h => .inr ⟨o', h, rfl⟩⟩
  have hr' : Rep c h { w with drawn := w.drawn + 1 } := ⟨hr.lt, fun i o ho => (hr.obj i o ho).mono hr hx rfl, hr.inj, hr.apart, hr.im⟩
  have hfalse : ∀ i, (Array.replicate ops.size false).getD i false = false := fun i => by
    rw [Array.getD_eq_getD_getElem?, Array.getElem?_replicate]
    split <;> rfl
  refine dmain (c0 := c) (h0 := h) (w0 := w) (ds := a.defers) (ordOk_spec hok) hK hKP hr ops.size [] ord _ c h _ e a ?_ ⟨rfl, hr', hx, hn, rfl, by simp, hp, fun i hi => ?_, fun b hb => (by cases hb), fun i hi => ?_, fun t _ => (he t).mono hr hx, fun b hb => (by cases hb)⟩
  · unfold unl
    exact Nat.le_trans (List.length_filter_le _ _) (by simp)
  · rw [hfalse] at hi; cases hi
  · rw [hfalse] at hi; cases hi
end
end Ab
