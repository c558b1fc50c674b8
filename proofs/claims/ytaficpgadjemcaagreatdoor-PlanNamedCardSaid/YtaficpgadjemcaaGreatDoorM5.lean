/- Parts of the proof of PnP, one behind the other. -/
import Derived.Test.YtaficpgadjemcaaGreatDoorM4
namespace Ab
set_option linter.unusedVariables false
set_option linter.unusedSimpArgs false
open Go

def PredV (P : Program) (Γ : CallR) (o : AOper) (e : Env) (h : Heap) : Prop := ∃ v, (∀ t, o.dst = some t → Lk (Env.get e t) v) ∧
  ((wantA e o.guard = some true ∧ ∀ K' kp' : SV → Heap → Prop, K' v h → aop P Γ o.op e h K' kp') ∨ (wantA e o.guard = some false ∧ v = .tup []))

theorem wantA_congr {e e' : Env} {o : AOper} (hE : ∀ t ∈ o.reads, Env.get e t = Env.get e' t) : wantA e o.guard = wantA e' o.guard := by
  unfold wantA
  cases hg : o.guard with
  | none => rfl
  | some gw =>
    obtain ⟨t, want⟩ := gw
    dsimp only
    rw [hE t (by simp [AOper.reads, hg])]
theorem aopR_congr {P : Program} {Γ : CallR} {e e' : Env} {h : Heap} {o : AOper} {K kp : SV → Heap → Prop} (hE : ∀ t ∈ o.reads, Env.get e t = Env.get e' t) : aop P Γ o.op e h K kp = aop P Γ o.op e' h K kp :=
  aop_congr fun t ht => hE t (by simp [AOper.reads, ht])
theorem PredV.congr {P : Program} {Γ : CallR} {e e' : Env} {h : Heap} {o : AOper} (hE : ∀ t ∈ o.reads, Env.get e t = Env.get e' t) (hd : ∀ t, o.dst = some t → Env.get e t = Env.get e' t) (hp : PredV P Γ o e h) : PredV P Γ o e' h := by
  obtain ⟨v, h1, h2⟩ := hp
  refine ⟨v, fun t ht => by rw [← hd t ht]; exact h1 t ht, ?_⟩
  rw [← wantA_congr hE]
  rcases h2 with ⟨h2, h3⟩ | h2
  · exact .inl ⟨h2, fun K' kp' hk => by rw [← aopR_congr hE]; exact h3 K' kp' hk⟩
  · exact .inr h2
theorem PredV.heap {P : Program} {Γ : CallR} {e : Env} {h h' : Heap} {o : AOper} (hc : o.op.cls = 0) (hp : PredV P Γ o e h) : PredV P Γ o e h' := by
  obtain ⟨v, h1, h2⟩ := hp
  refine ⟨v, h1, ?_⟩
  rcases h2 with ⟨h2, h3⟩ | h2
  · refine .inl ⟨h2, fun K' kp' hk => ?_⟩
    obtain ⟨v', hv', hd⟩ := aop_det0 (k := fun u _ => u = v) hc (h3 (fun u _ => u = v) (fun _ _ => False) rfl)
    subst hv'
    exact hd h' K' kp' hk
  · exact .inr h2

theorem putE_get (e : Env) (d : Option Nat) (v : SV) (t : Nat) : (d = some t → Env.get (putE e d v) t = v) ∧ (d ≠ some t → Env.get (putE e d v) t = Env.get e t) := by
  cases d with
  | none => exact ⟨(fun h => by cases h), fun _ => rfl⟩
  | some u =>
    simp only [putE, get_put]
    refine ⟨fun h => ?_, fun h => ?_⟩
    · cases h; rw [if_pos rfl]
    · rw [if_neg (fun e => h (by rw [e]))]

theorem againK_inv {P : Program} {Γ : CallR} (hΓ : Γ.Ok P) {L : List AOper} {p : Prop} : ∀ {ag : List Nat} {e : Env} {h : Heap}, (∀ i ∈ ag, ∀ o, L[i]? = some o → o.op.cls ≤ 1 ∨ isB o = true) → againK P Γ L ag e h p →
    p ∧ ∀ i ∈ ag, ∀ o, L[i]? = some o → o.op.cls ≤ 1 → wantA e o.guard = some true → PredV P Γ o e h
  | [], e, h, _, hp => ⟨hp, fun i hi => by cases hi⟩
  | j :: r, e, h, hc, hp => by
    rw [againK_cons] at hp
    rw [getL_eq] at hp
    split at hp
    · exact hp.elim
    · rename_i o ho
      have hcr : ∀ i ∈ r, ∀ o, L[i]? = some o → o.op.cls ≤ 1 ∨ isB o = true := fun i hi => hc i (by simp [hi])
      cases hB : isB o with
      | true =>
        rw [hB] at hp
        obtain ⟨h1, h2⟩ := againK_inv hΓ (ag := r) hcr hp
        refine ⟨h1, fun i hi o' ho' hcl hw => ?_⟩
        rcases List.mem_cons.1 hi with rfl | hi
        · rw [ho] at ho'; cases ho'
          rw [isB_cls hB] at hcl; omega
        · exact h2 i hi o' ho' hcl hw
      | false =>
      rw [hB] at hp
      have hc1 : o.op.cls ≤ 1 := (hc j (by simp) o ho).resolve_right (by rw [hB]; decide)
      have fin : ∀ {e1 : Env}, EqE e e1 → (wantA e o.guard = some true → PredV P Γ o e h) → (p ∧ ∀ i ∈ r, ∀ o, L[i]? = some o → o.op.cls ≤ 1 → wantA e1 o.guard = some true → PredV P Γ o e1 h) →
          p ∧ ∀ i ∈ j :: r, ∀ o, L[i]? = some o → o.op.cls ≤ 1 → wantA e o.guard = some true → PredV P Γ o e h := by
        intro e1 hE hpo ⟨hpp, hr⟩
        refine ⟨hpp, fun i hi o' ho' hcl hw => ?_⟩
        rcases List.mem_cons.1 hi with rfl | hi
        · rw [ho] at ho'; cases ho'; exact hpo hw
        · exact (hr i hi o' ho' hcl (by rw [← wantA_congr (fun t _ => hE t)]; exact hw)).congr (fun t _ => (hE t).symm) (fun t _ => (hE t).symm)
      rcases guardK_inv hp with ⟨hw, e1, hE, hp⟩ | ⟨hw, e1, hE, hp⟩
      · obtain ⟨v, hv, hd⟩ := aop_det1 hc1 hp
        have hpred : (∀ t, o.dst = some t → Lk (Env.get e t) v) → PredV P Γ o e h := fun hdst => ⟨v, hdst, .inl ⟨hw, fun K' kp' hk => by rw [aopR_congr (fun t _ => hE t)]; exact hd K' kp' hk⟩⟩
        split at hv
        · rename_i t hdst
          rw [getK_eq] at hv
          obtain ⟨hvt, hv⟩ := hΓ.same _ _ _ hv
          exact fin hE (fun _ => hpred fun t' ht' => by rw [hdst] at ht'; cases ht'; rw [hE]; exact hvt) (againK_inv hΓ hcr hv)
        · rename_i hdst
          exact fin hE (fun _ => hpred fun t' ht' => by rw [hdst] at ht'; cases ht') (againK_inv hΓ hcr hv)
      · exact fin hE (fun hw' => by rw [hw] at hw'; cases hw') (againK_inv hΓ hcr hp)

theorem pairwise_or {α : Type} {R : α → α → Prop} : ∀ {l : List α}, l.Pairwise R → ∀ a ∈ l, ∀ b ∈ l, a = b ∨ R a b ∨ R b a
  | [], _, a, ha, _, _ => by cases ha
  | x :: r, .cons hx hr, a, ha, b, hb => by
    rcases List.mem_cons.1 ha with rfl | ha' <;> rcases List.mem_cons.1 hb with rfl | hb'
    · exact .inl rfl
    · exact .inr (.inl (hx b hb'))
    · exact .inr (.inr (hx a ha'))
    · exact pairwise_or hr a ha' b hb'

/-- What the look at an order shows, in words. -/
structure OrdF (L : List AOper) (ms : List Nat) (ord : List Ent) (T : List Nat) : Prop where
  mask : ∀ (j : Nat) (o : AOper), L[j]? = some o → ms.getD j 0 = preMask ms o.pre ∧ ∀ k ∈ o.pre, k < j
  pw : ord.Pairwise fun a b => rOk L ms a b = true
  ent : ∀ b ∈ ord, eOk L b = true
  all : ∀ i, i < L.length → (∃ b ∈ ord, b.1 = i) ∨ i ∈ T
  un : ∀ b ∈ ord, memB b.2.2 b.1 = false
  tail : ∀ i ∈ T, ∃ o, L[i]? = some o ∧ o.op.isBad = false ∧ (o.op.cls ≤ 1 ∨ o.op.isStore = true) ∧ ∀ b ∈ ord, Nat.testBit (ms.getD i 0) b.1 = true
theorem splitT_eq : ∀ (ord : List Ent), ord = (splitT ord).1 ++ (splitT ord).2 ∧ (∀ b ∈ (splitT ord).1, memB b.2.2 b.1 = false) ∧ ((splitT ord).2 = [] ∨ ∃ a r, (splitT ord).2 = a :: r ∧ memB a.2.2 a.1 = true)
  | [] => ⟨rfl, (fun b hb => by cases hb), .inl rfl⟩
  | a :: r => by
    unfold splitT
    cases hm : memB a.2.2 a.1 with
    | true => exact ⟨rfl, (fun b hb => by cases hb), .inr ⟨a, r, rfl, hm⟩⟩
    | false =>
      obtain ⟨h1, h2, h3⟩ := splitT_eq r
      refine ⟨congrArg (a :: ·) h1, fun b hb => ?_, h3⟩
      rcases List.mem_cons.1 hb with rfl | hb
      · exact hm
      · exact h2 b hb
theorem ordOk_spec {L : List AOper} {ord : List Ent} (h : ordOk L ord = true) : OrdF L (mkMasks L []) (splitT ord).1 ((splitT ord).2.map fun y => y.1) := by
  simp only [ordOk, Bool.and_eq_true] at h
  obtain ⟨⟨⟨⟨h1, h2⟩, h3⟩, h4⟩, h5⟩ := h
  refine ⟨fun j o hj => ?_, pwAll_pairwise h2, fun b hb => List.all_eq_true.1 h3 b hb, fun i hi => ?_, (splitT_eq ord).2.1, fun i hi => ?_⟩
  · have hlt : j < L.length := by
      rcases Nat.lt_or_ge j L.length with h | h
      · exact h
      · rw [List.getElem?_eq_none h] at hj; cases hj
    have := List.all_eq_true.1 h1 j (List.mem_range.2 hlt)
    rw [hj] at this
    simp only [Bool.and_eq_true] at this
    refine ⟨Nat.eq_of_beq_eq_true this.1, fun k hk => ?_⟩
    have := List.all_eq_true.1 this.2 k hk
    exact Nat.lt_of_succ_le (by simpa [Nat.blt] using this)
  · have := List.all_eq_true.1 h4 i (List.mem_range.2 hi)
    rw [Bool.or_eq_true] at this
    rcases this with this | this
    · obtain ⟨b, hb, he⟩ := List.any_eq_true.1 this
      exact .inl ⟨b, hb, Nat.eq_of_beq_eq_true he⟩
    · obtain ⟨b, hb, he⟩ := List.any_eq_true.1 this
      exact .inr (List.mem_map.2 ⟨b, hb, Nat.eq_of_beq_eq_true he⟩)
  · obtain ⟨a, ha, rfl⟩ := List.mem_map.1 hi
    have := List.all_eq_true.1 h5 a ha
    unfold tOk at this
    split at this
    · rename_i o ho
      simp only [Bool.and_eq_true, Bool.or_eq_true, Bool.not_eq_true'] at this
      exact ⟨o, ho, this.1, this.2.1.imp Nat.le_of_ble_eq_true id, fun b hb => List.all_eq_true.1 this.2.2 b hb⟩
    · cases this

structure ROk (L : List AOper) (ms : List Nat) (a b : Ent) (oa ob : AOper) : Prop where
  ne : a.1 ≠ b.1
  dst : ∀ t, oa.dst = some t → ob.dst ≠ some t
  ab : ∀ t, oa.dst = some t → t ∈ ob.reads → Nat.testBit (ms.getD b.1 0) a.1 = true
  ba : ∀ t, ob.dst = some t → t ∈ oa.reads → b.2.1 = true ∧ Nat.testBit (ms.getD b.1 0) a.1 = true
  st : a.2.1 = true → Nat.testBit (ms.getD b.1 0) a.1 = true ∨ isC ob = true ∨ (isB ob = true ∧ b.1 ∈ a.2.2)
  rd : a.2.1 = false → b.2.1 = true → Nat.testBit (ms.getD b.1 0) a.1 = true ∨ oa.op.cls = 0 ∨ a.1 ∈ b.2.2
theorem rOk_spec {L : List AOper} {ms : List Nat} {a b : Ent} (h : rOk L ms a b = true) : ∃ oa ob, L[a.1]? = some oa ∧ L[b.1]? = some ob ∧ ROk L ms a b oa ob := by
  unfold rOk at h
  split at h
  · rename_i oa ob ha hb
    refine ⟨oa, ob, ha, hb, ?_⟩
    simp only [Bool.and_eq_true] at h
    obtain ⟨⟨⟨⟨h1, h2⟩, h3⟩, h4⟩, h5⟩ := h
    refine ⟨fun e => by rw [e] at h1; simp at h1, fun t ht => ?_, fun t ht hr => ?_, fun t ht hr => ?_, fun hs => ?_, fun hs hb => ?_⟩
    · rw [ht] at h2
      simp only [Bool.and_eq_true] at h2
      intro e
      rw [e] at h2
      simp at h2
    · rw [ht] at h2
      simp only [Bool.and_eq_true, Bool.or_eq_true, Bool.not_eq_true'] at h2
      rcases h2.2 with h2 | h2
      · rw [memN_iff.2 hr] at h2; cases h2
      · exact h2
    · rw [ht] at h3
      simp only [Bool.and_eq_true, Bool.or_eq_true, Bool.not_eq_true'] at h3
      rcases h3 with h3 | h3
      · rw [memN_iff.2 hr] at h3; cases h3
      · exact h3
    · rw [hs] at h4
      simp only [Bool.not_true, Bool.false_or, Bool.or_eq_true, Bool.and_eq_true] at h4
      rcases h4 with h4 | h4 | h4
      · exact .inl h4
      · exact .inr (.inl h4)
      · exact .inr (.inr ⟨h4.1, memN_iff.1 h4.2⟩)
    · rw [hs, hb] at h5
      simp only [Bool.not_true, Bool.false_or, Bool.or_eq_true] at h5
      rcases h5 with h5 | h5 | h5
      · exact .inl h5
      · exact .inr (.inl (Nat.eq_of_beq_eq_true h5))
      · exact .inr (.inr (memN_iff.1 h5))
  · cases h

structure EOk (L : List AOper) (a : Ent) (o : AOper) : Prop where
  good : o.op.isBad = false
  cls : a.2.1 = false → o.op.cls ≤ 1
  again : a.2.1 = false → a.2.2 = []
  self : a.2.1 = false → ∀ t, o.dst = some t → t ∉ o.reads
  ag : ∀ i ∈ a.2.2, ∀ oi, L[i]? = some oi → oi.op.cls ≤ 1 ∨ isB oi = true
  lk : ∀ i ∈ a.2.2, ∀ oi, L[i]? = some oi → isB oi = true → ∀ (q : Nat) (oq : AOper) (t : Nat), L[q]? = some oq → oq.dst = some t → t ∈ oi.reads → isC oq = false ∧ isB oq = false
theorem eOk_spec {L : List AOper} {a : Ent} (h : eOk L a = true) : ∃ o, L[a.1]? = some o ∧ EOk L a o := by
  unfold eOk at h
  split at h
  · rename_i o ho
    refine ⟨o, ho, ?_⟩
    simp only [Bool.and_eq_true, Bool.or_eq_true, Bool.not_eq_true'] at h
    obtain ⟨⟨⟨h1, h2⟩, h3⟩, h4⟩ := h
    refine ⟨h1, fun hs => ?_, fun hs => ?_, fun hs t ht hr => ?_, fun i hi oi hoi => ?_, fun i hi oi hoi hB q oq t hq hqt htr => ?_⟩
    · rcases h2 with h2 | h2
      · exact Nat.le_of_ble_eq_true h2
      · rw [hs] at h2; cases h2
    · rcases h3 with h3 | h3
      · rw [hs] at h3; cases h3
      · exact List.isEmpty_iff.1 h3.1
    · rcases h3 with h3 | h3
      · rw [hs] at h3; cases h3
      · have := h3.2
        rw [ht] at this
        simp only [Bool.not_eq_true'] at this
        rw [memN_iff.2 hr] at this; cases this
    · have := List.all_eq_true.1 h4 i hi
      rw [hoi] at this
      simp only [Bool.or_eq_true, Bool.and_eq_true] at this
      rcases this with h | h
      · exact .inl (Nat.le_of_ble_eq_true h)
      · exact .inr h.1
    · have := List.all_eq_true.1 h4 i hi
      rw [hoi] at this
      simp only [Bool.or_eq_true, Bool.and_eq_true] at this
      rcases this with h | h
      · have := Nat.le_of_ble_eq_true h
        rw [isB_cls hB] at this; omega
      · have := List.all_eq_true.1 h.2 oq (List.mem_of_getElem? hq)
        rw [hqt] at this
        simp only [Bool.or_eq_true, Bool.not_eq_true', Bool.or_eq_false_iff] at this
        rcases this with h | h
        · rw [memN_iff.2 htr] at h; cases h
        · exact h
  · cases h

section
variable {P : Program} {Γ : CallR} {n : Nat} {ops : Array Oper} {ord : List Ent} {TT : List Nat} {ms : List Nat} {k : Env → Heap → Prop} {kp : SV → Env → Heap → Prop} {Q : Exit → Act → World → Prop} {c0 : Cx} {h0 : Heap} {w0 : World} {ds : List Deferred}

abbrev LL (P : Program) (n : Nat) (ops : Array Oper) : List AOper := ops.toList.map (cOper P n ops true)

/-- What has been made ahead of its turn: a new variable that hangs on nothing, or a slice written out of what stands in slots. -/
def Made (L : List AOper) (o : AOper) (t B : Nat) (w : World) (a : Act) : Prop :=
  (isC o = true ∧ o.reads = [] ∧ ∃ ty sz v C, o.op = .box ty sz (.const v) ∧ v.cells.length = sz ∧ v ≠ .undef ∧ a.tmps.getD t undef = .pointer (some ⟨B, 0, none⟩) ∧
    w.heap[B]? = some (.cells C ty (0, 0)) ∧ C.size = sz ∧ ∀ (j : Nat) (u : SV) (x : Value), v.cells[j]? = some u → C[j]? = some x → ∀ Im w', VP Im w' u x) ∨
  (isB o = true ∧ (∀ (q : Nat) (oq : AOper) (t' : Nat), L[q]? = some oq → oq.dst = some t' → t' ∈ o.reads → isC oq = false ∧ isB oq = false) ∧
    ∃ (ty : TypeId) (sz : Nat) (zero : SV) (n : Nat) (ps : List (Nat × Operand)) (C0 C : Array Value), o.op = .buildSlice ty sz zero n (ps.map fun (j, x) => (j, cOpd x)) ∧ (∀ (c : Cx) (h : Heap) (w : World), LR c h w sz (List.replicate n zero) C0) ∧
      Instr.fill (fun j => some (j * sz, sz)) C0 (ps.map fun (j, x) => (j, a.eval x)) = some C ∧ a.tmps.getD t undef = .slice (some ⟨B, 0, none⟩) n n ∧ w.heap[B]? = some (.cells C ty (0, 0)))
theorem Made.isCB {L : List AOper} {o : AOper} {t B : Nat} {w : World} {a : Act} (h : Made L o t B w a) : isC o = true ∨ isB o = true := by
  rcases h with h | h
  · exact .inl h.1
  · exact .inr h.1
theorem Made.nr {L : List AOper} {o : AOper} {t B : Nat} {w : World} {a : Act} (h : Made L o t B w a) {q : Nat} {oq : AOper} {t' : Nat} (hq : L[q]? = some oq) (ht : oq.dst = some t') (hr : t' ∈ o.reads) : isC oq = false ∧ isB oq = false := by
  rcases h with h | h
  · rw [h.2.1] at hr; cases hr
  · exact h.2.1 q oq t' hq ht hr
theorem Made.mono {L : List AOper} {o : AOper} {t B : Nat} {w w' : World} {a a' : Act} (h : Made L o t B w a) (hw : w'.heap[B]? = w.heap[B]?) (ht : ∀ t', t' = t ∨ t' ∈ o.reads → a'.tmps.getD t' undef = a.tmps.getD t' undef) : Made L o t B w' a' := by
  rcases h with ⟨h1, h2, ty, sz, v, C, h3, h4, h5, h6, h7, h8⟩ | ⟨h1, h2, ty, sz, zero, n, ps, C0, C, h3, h4, h5, h6, h7⟩
  · exact .inl ⟨h1, h2, ty, sz, v, C, h3, h4, h5, by rw [ht t (.inl rfl)]; exact h6, by rw [hw]; exact h7, h8⟩
  · refine .inr ⟨h1, h2, ty, sz, zero, n, ps, C0, C, h3, h4, ?_, by rw [ht t (.inl rfl)]; exact h6, by rw [hw]; exact h7⟩
    have he : (ps.map fun (j, x) => (j, a'.eval x)) = ps.map fun (j, x) => (j, a.eval x) := by
      refine List.map_congr_left fun p hp => ?_
      obtain ⟨j, x⟩ := p
      dsimp only
      rw [eval_congr' (a := a) (a' := a') x fun t' ht' => ht t' (.inr ?_)]
      unfold AOper.reads
      rw [h3]
      refine List.mem_append_left _ (List.mem_flatMap.2 ⟨(j, cOpd x), List.mem_map.2 ⟨(j, x), hp, rfl⟩, ht'⟩)
    rw [he]; exact h5
/-- Its turn in the one order. -/
theorem Made.turn {P : Program} {Γ : CallR} {L : List AOper} {o : AOper} {t B nn : Nat} {l : List (Nat × AObj)} {c : Cx} {w : World} {e : Env} {a : Act} {k kp : SV → Heap → Prop} (hm : Made L o t B w a)
    (hT : ∀ t' ∈ o.reads, VR c ⟨nn, l⟩ w (Env.get e t') (a.tmps.getD t' undef)) (hp : aop P Γ o.op e ⟨nn, l⟩ k kp) :
    ∃ (sz : Nat) (elems : List SV) (ty : TypeId) (C : Array Value) (V : SV), w.heap[B]? = some (.cells C ty (0, 0)) ∧ LR c ⟨nn, l⟩ w sz elems C ∧ k V ⟨nn + 1, (nn, .vec 0 sz elems ⟨false, some ty⟩) :: l⟩ ∧
      VR (c.push nn B) ⟨nn + 1, (nn, .vec 0 sz elems ⟨false, some ty⟩) :: l⟩ w V (a.tmps.getD t undef) := by
  rcases hm with ⟨_, _, ty, sz, v, C, hop, hvl, hvu, htmp, hw, hCs, hcell⟩ | ⟨_, _, ty, sz, zero, n, ps, C0, C, hop, hC0, hf, htmp, hw⟩
  · rw [hop] at hp
    dsimp only [aop, AOpd.evK] at hp
    obtain ⟨_, hp⟩ := cellsK_iff.1 hp
    replace hp := asr_iff.1 hp
    obtain ⟨_, hp⟩ := hp
    refine ⟨sz, [v], ty, C, .ref nn 0 0 0, hw, ⟨by simpa using hCs, fun v' hv' => by simp only [List.mem_singleton] at hv'; subst hv'; exact hvl, fun i j e u x he hu hx => ?_⟩, hp, by rw [htmp]; exact ref_new⟩
    cases i with
    | zero => simp at he; subst he; exact .pure (hcell j u x hu (by simpa using hx) _ _)
    | succ i => simp at he
  · rw [hop] at hp
    simp only [aop, replK_eq] at hp
    have hsub : ∀ t' ∈ (ps.map fun (j, x) => (j, cOpd x)).flatMap (fun p => p.2.use), t' ∈ o.reads := fun t' ht' => by
      unfold AOper.reads
      rw [hop]
      exact List.mem_append_left _ ht'
    have her : ER c ⟨nn, l⟩ w (Env.only o.reads e) a.tmps := fun t' => by
      rw [get_only]
      split
      · exact hT t' ‹_›
      · exact .undef
    rw [elems_congr (e' := Env.only o.reads e) (fun t' ht' => by rw [get_only, if_pos (hsub t' ht')])] at hp
    obtain ⟨cs', C', hk', hf', hlr, hlen⟩ := fillElems_run her sz ps _ C0 (hC0 _ _ _) hp
    rw [hf] at hf'
    cases hf'
    exact ⟨sz, cs', ty, C, .sl nn 0 sz 0 n (some n), hw, hlr, hk', by rw [htmp]; exact sl_new hw (Nat.le_refl _) (by rw [hlr.1, hlen]; simp)⟩

/-- What was made ahead of its turn: its block has no name yet. -/
structure PendAt (P : Program) (n : Nat) (ops : Array Oper) (w0 : World) (pb : Nat → Nat) (c : Cx) (h : Heap) (w : World) (a : Act) (i : Nat) : Prop where
  ex : ∃ o t, (LL P n ops)[i]? = some o ∧ o.dst = some t ∧ o.guard = none ∧ Made (LL P n ops) o t (pb i) w a
  ge : w0.heap.size ≤ pb i
  lt : pb i < w.heap.size
  noname : ∀ j o, h.obj j = some o → c.β j ≠ pb i
  noim : ¬ c.Im (pb i)
abbrev unturned (done : List Ent) (i : Nat) : Prop := ∀ b ∈ done, b.1 ≠ i

/-- In the midst of a region: what has run ('listed'), how far the one order has been gone through ('done'). -/
structure DInv (P : Program) (Γ : CallR) (n : Nat) (ops : Array Oper) (ord : List Ent) (k : Env → Heap → Prop) (kp : SV → Env → Heap → Prop) (c0 : Cx) (h0 : Heap) (w0 : World) (ds : List Deferred)
    (done rest : List Ent) (listed : Array Bool) (pb : Nat → Nat) (c : Cx) (h : Heap) (w : World) (e : Env) (a : Act) : Prop where
  split : ord = done ++ rest
  rep : Rep c h w
  ext : Ext c0 h0 w0 c h w
  size : a.tmps.size = n
  defers : a.defers = ds
  lsize : listed.size = ops.size
  cont : aopsD P Γ (LL P n ops) rest e h k kp
  dc : ∀ i, listed.getD i false = true → (∃ b ∈ done, b.1 = i) ∨ PendAt P n ops w0 pb c h w a i
  pinj : ∀ i j, listed.getD i false = true → listed.getD j false = true → unturned done i → unturned done j → pb i = pb j → i = j
  sd : ∀ b ∈ done, b.2.1 = true → listed.getD b.1 false = true
  closed : ∀ i, listed.getD i false = true → ∀ o, (LL P n ops)[i]? = some o → ∀ j ∈ o.pre, listed.getD j false = true
  T : ∀ t, (∀ b ∈ done, listed.getD b.1 false = false → ∀ o, (LL P n ops)[b.1]? = some o → o.dst ≠ some t) → (∀ i, listed.getD i false = true → unturned done i → ∀ o, (LL P n ops)[i]? = some o → o.dst ≠ some t) → VR c h w (Env.get e t) (a.tmps.getD t undef)
  Pd : ∀ b ∈ done, listed.getD b.1 false = false → ∀ o, (LL P n ops)[b.1]? = some o → PredV P Γ o e h

theorem mask_lt (hF : OrdF (LL P n ops) ms ord TT) : ∀ (m j : Nat) {o : AOper}, j < m → (LL P n ops)[j]? = some o → ∀ i, Nat.testBit (ms.getD j 0) i = true → i < j
  | 0, j, o, hj, _, _, _ => by omega
  | m+1, j, o, hj, ho, i, hb => by
    obtain ⟨h1, h2⟩ := hF.mask j o ho
    rw [h1] at hb
    rcases preMask_bit ms i o.pre 0 hb with hb | ⟨q, hq, hb⟩
    · simp at hb
    · have hqj := h2 q hq
      rcases hb with rfl | hb
      · exact hqj
      · have hjl : j < (LL P n ops).length := by
          rcases Nat.lt_or_ge j (LL P n ops).length with h | h
          · exact h
          · rw [List.getElem?_eq_none h] at ho; cases ho
        have hqo : (LL P n ops)[q]? = some (LL P n ops)[q] := List.getElem?_eq_getElem (by omega)
        have := mask_lt hF m q (by omega) hqo i hb
        omega
theorem anc_listed (hF : OrdF (LL P n ops) ms ord TT) {listed : Array Bool} (hcl : ∀ i, listed.getD i false = true → ∀ o, (LL P n ops)[i]? = some o → ∀ j ∈ o.pre, listed.getD j false = true) :
    ∀ (m j : Nat) (o : AOper), j < m → (LL P n ops)[j]? = some o → (∀ i ∈ o.pre, listed.getD i false = true) → ∀ i, Nat.testBit (ms.getD j 0) i = true → listed.getD i false = true
  | 0, j, o, hj, _, _, _, _ => by omega
  | m+1, j, o, hj, ho, hpre, i, hb => by
    obtain ⟨h1, h2⟩ := hF.mask j o ho
    rw [h1] at hb
    rcases preMask_bit ms i o.pre 0 hb with hb | ⟨q, hq, hb⟩
    · simp at hb
    · rcases hb with rfl | hb
      · exact hpre _ hq
      · have hqj := h2 q hq
        have hjl : j < (LL P n ops).length := by
          rcases Nat.lt_or_ge j (LL P n ops).length with h | h
          · exact h
          · rw [List.getElem?_eq_none h] at ho; cases ho
        have hqo : (LL P n ops)[q]? = some (LL P n ops)[q] := List.getElem?_eq_getElem (by omega)
        exact anc_listed hF hcl m q _ (by omega) hqo (hcl q (hpre q hq) _ hqo) i hb

theorem isC_cls {o : AOper} (h : isC o = true) : o.op.cls = 2 := by
  obtain ⟨t, ty, sz, v, pre, rfl, _⟩ := isC_inv h
  rfl
theorem rest_unturned (hF : OrdF (LL P n ops) ms ord TT) {done rest : List Ent} (hs : ord = done ++ rest) {b : Ent} (hb : b ∈ rest) : unturned done b.1 := by
  intro b' hb' he
  have hpw := hF.pw
  rw [hs, List.pairwise_append] at hpw
  obtain ⟨oa, ob, _, _, hr⟩ := rOk_spec (hpw.2.2 b' hb' b hb)
  exact hr.ne he
theorem head_new (hF : OrdF (LL P n ops) ms ord TT) {done rest : List Ent} {listed : Array Bool} {pb : Nat → Nat} {c : Cx} {h : Heap} {w : World} {e : Env} {a : Act} (hd : DInv P Γ n ops ord k kp c0 h0 w0 ds done rest listed pb c h w e a) {b : Ent} (hb : b ∈ rest)
    {o : AOper} (ho : (LL P n ops)[b.1]? = some o) (hc : o.op.cls ≤ 1) : listed.getD b.1 false = false := by
  cases hl : listed.getD b.1 false with
  | false => rfl
  | true =>
    rcases hd.dc b.1 hl with ⟨b', hb', he⟩ | hp
    · exact absurd he (rest_unturned hF hd.split hb b' hb')
    · obtain ⟨o', t, hLi, _, _, hm⟩ := hp.ex
      rw [ho] at hLi; cases hLi
      rcases hm.isCB with h | h
      · rw [isC_cls h] at hc; omega
      · rw [isB_cls h] at hc; omega
theorem listed_anc (hF : OrdF (LL P n ops) ms ord TT) {listed : Array Bool} (hcl : ∀ i, listed.getD i false = true → ∀ o, (LL P n ops)[i]? = some o → ∀ j ∈ o.pre, listed.getD j false = true) {p : Nat} (hp : listed.getD p false = true) {o : AOper} (ho : (LL P n ops)[p]? = some o) :
    ∀ q, Nat.testBit (ms.getD p 0) q = true → listed.getD q false = true :=
  anc_listed hF hcl (p + 1) p o (Nat.lt_succ_self _) ho (hcl p hp o ho)
theorem PendAt.mono {pb : Nat → Nat} {c c' : Cx} {h h' : Heap} {w w' : World} {a a' : Act} {i : Nat} (hp : PendAt P n ops w0 pb c h w a i) (hx : Ext c h w c' h' w')
    (hs : ∀ o t, (LL P n ops)[i]? = some o → o.dst = some t ∨ t ∈ o.reads → a'.tmps.getD t undef = a.tmps.getD t undef) : PendAt P n ops w0 pb c' h' w' a' i := by
  obtain ⟨⟨o, t, hLi, hdst, hg, hm⟩, hge, hlt, hnn, hni⟩ := hp
  refine ⟨⟨o, t, hLi, hdst, hg, hm.mono (hx.frame _ hlt hnn) fun t' ht' => hs o t' hLi (ht'.imp (fun h => by rw [h]; exact hdst) fun h => h)⟩, hge, Nat.lt_of_lt_of_le hlt hx.size, fun j o' ho' he => ?_, fun hb => ?_⟩
  · rcases hx.new j o' ho' with h1 | ⟨o, ho, h1⟩
    · omega
    · exact hnn j o ho (h1 ▸ he)
  · rcases hx.im' _ hb with h1 | h1 | ⟨j, o, ho, h1⟩
    · exact hni h1
    · omega
    · exact hnn j o ho h1

theorem VR.name {c : Cx} {nn : Nat} {l : List (Nat × AObj)} {w : World} (ob : AObj) (B : Nat) {v : SV} {x : Value} (h : VR c ⟨nn, l⟩ w v x) : VR (c.push nn B) ⟨nn + 1, (nn, ob) :: l⟩ w v x := by
  induction h with
  | pure h => exact .pure h
  | ref i g idx sub x hx hi hg h =>
    have hi' : i < nn := hi
    refine .ref _ _ _ _ _ hx (Nat.lt_succ_of_lt hi') (fun o ho => ?_) fun o ho hgo => ?_
    · rw [obj_push, if_neg (by omega)] at ho; exact hg o ho
    · rw [obj_push, if_neg (by omega)] at ho
      rw [h o ho hgo]; simp [Cx.push]; omega
  | sl i g sz off len cap x hx hi hg h =>
    have hi' : i < nn := hi
    refine .sl _ _ _ _ _ _ _ hx (Nat.lt_succ_of_lt hi') (fun o ho => ?_) fun o ho hgo => ?_
    · rw [obj_push, if_neg (by omega)] at ho; exact hg o ho
    · rw [obj_push, if_neg (by omega)] at ho
      have hb : (c.push nn B).β i = c.β i := by simp [Cx.push]; omega
      rw [hb]
      exact h o ho hgo
  | mapv i g x hx hi hg h =>
    have hi' : i < nn := hi
    refine .mapv _ _ _ hx (Nat.lt_succ_of_lt hi') (fun o ho => ?_) fun o ho hgo => ?_
    · rw [obj_push, if_neg (by omega)] at ho; exact hg o ho
    · rw [obj_push, if_neg (by omega)] at ho
      rw [h o ho hgo]; simp [Cx.push]; omega
  | iface t v x _ ih => exact .iface _ _ _ ih
  | agg l cs hl _ ih => exact .agg _ _ hl ih
  | tup l cs hl _ ih => exact .tup _ _ hl ih
  | func fn a b a' b' ha hb _ _ ih ih' => exact .func _ _ _ _ _ ha hb ih ih'

/-- One step of the one order, past an operation that does not act. -/
theorem advance1 (hF : OrdF (LL P n ops) ms ord TT) {done r : List Ent} {listed : Array Bool} {pb : Nat → Nat} {c : Cx} {h : Heap} {w : World} {e : Env} {a : Act} {j : Nat} {ag : List Nat}
    (hd : DInv P Γ n ops ord k kp c0 h0 w0 ds done ((j, false, ag) :: r) listed pb c h w e a) : ∃ e', DInv P Γ n ops ord k kp c0 h0 w0 ds (done ++ [(j, false, ag)]) r listed pb c h w e' a := by
  have hmem : (j, false, ag) ∈ ord := by rw [hd.split]; simp
  obtain ⟨o, ho, hE⟩ := eOk_spec (hF.ent _ hmem)
  have hag : ag = [] := hE.again rfl
  subst hag
  have hnew := head_new hF hd (b := (j, false, [])) (by simp) ho (hE.cls rfl)
  have hcont := hd.cont
  rw [aopsD_cons _ _ _ _ _ _ _ _ _ _ _ (hF.un _ hmem)] at hcont
  rw [getL_eq] at hcont
  have ho' : (LL P n ops)[j]? = some o := ho
  rw [ho'] at hcont
  dsimp only at hcont
  replace hcont := (looksK_inv hcont).1
  have hpw := hF.pw
  rw [hd.split, List.pairwise_append] at hpw
  have hR : ∀ b ∈ done, ∃ ob, (LL P n ops)[b.1]? = some ob ∧ ROk (LL P n ops) ms b (j, false, []) ob o := fun b hb => by
    obtain ⟨oa, ob, h1, h2, h3⟩ := rOk_spec (hpw.2.2 b hb (j, false, []) (by simp))
    have h2' : (LL P n ops)[j]? = some ob := h2
    rw [ho'] at h2'; cases h2'
    exact ⟨oa, h1, h3⟩
  -- behind the step, whatever it came to
  have fin : ∀ (e1 : Env) (v : SV), EqE e e1 → ((wantA e o.guard = some true ∧ ∀ K' kp' : SV → Heap → Prop, K' v h → aop P Γ o.op e1 h K' kp') ∨ (wantA e o.guard = some false ∧ v = .tup [])) → aopsD P Γ (LL P n ops) r (putE e1 o.dst v) h k kp →
      ∃ e', DInv P Γ n ops ord k kp c0 h0 w0 ds (done ++ [(j, false, [])]) r listed pb c h w e' a := by
    intro e1 v hE1 hcase hc
    have hget : ∀ t, o.dst ≠ some t → Env.get (putE e1 o.dst v) t = Env.get e t := fun t ht => by rw [(putE_get e1 o.dst v t).2 ht, ← hE1]
    have hread : ∀ t ∈ o.reads, Env.get e t = Env.get (putE e1 o.dst v) t := fun t ht => (hget t fun hdst => hE.self rfl t hdst ht).symm
    refine ⟨_, by rw [hd.split]; simp, hd.rep, hd.ext, hd.size, hd.defers, hd.lsize, hc, fun i hi => ?_, fun i i' hi hi' hu hu' => hd.pinj i i' hi hi' (fun b hb => hu b (by simp [hb])) (fun b hb => hu' b (by simp [hb])), fun b hb hs => ?_, hd.closed, fun t ht htp => ?_, fun b hb hl ob hob => ?_⟩
    · rcases hd.dc i hi with ⟨b, hb, he⟩ | hp
      · exact .inl ⟨b, by simp [hb], he⟩
      · exact .inr hp
    · rcases List.mem_append.1 hb with hb | hb
      · exact hd.sd b hb hs
      · simp only [List.mem_singleton] at hb; subst hb; cases hs
    · have hne : o.dst ≠ some t := ht (j, false, []) (by simp) hnew o ho
      rw [hget t hne]
      refine hd.T t (fun b hb => ht b (by simp [hb])) fun i hi hu => htp i hi fun b hb => ?_
      rcases List.mem_append.1 hb with hb | hb
      · exact hu b hb
      · simp only [List.mem_singleton] at hb
        subst hb
        intro he
        have he' : j = i := he
        subst he'
        rw [hi] at hnew; cases hnew
    · rcases List.mem_append.1 hb with hb | hb
      · obtain ⟨ob', hob', hr⟩ := hR b hb
        rw [hob] at hob'; cases hob'
        refine (hd.Pd b hb hl ob hob).congr (fun t ht => (hget t fun hdst => ?_).symm) (fun t ht => (hget t fun hdst => hr.dst t ht hdst).symm)
        have := (hr.ba t hdst ht).1
        cases this
      · simp only [List.mem_singleton] at hb
        subst hb
        have hob' : (LL P n ops)[j]? = some ob := hob
        rw [ho'] at hob'; cases hob'
        refine ⟨v, fun t ht => by rw [(putE_get e1 o.dst v t).1 ht]; exact .refl _, ?_⟩
        rw [← wantA_congr hread]
        rcases hcase with ⟨h1, h2⟩ | h1
        · exact .inl ⟨h1, fun K' kp' hk => by rw [← aopR_congr hread, aopR_congr (fun t _ => hE1 t)]; exact h2 K' kp' hk⟩
        · exact .inr h1
  rcases guardK_inv hcont with ⟨hw, e1, hE1, hp⟩ | ⟨hw, e1, hE1, hp⟩
  · obtain ⟨v, hv, hdet⟩ := aop_det1 (hE.cls rfl) hp
    rw [putD_eq] at hv
    exact fin e1 v hE1 (.inl ⟨hw, hdet⟩) hv
  · rw [putD_eq] at hp
    exact fin e1 _ hE1 (.inr ⟨hw, rfl⟩) hp

/-- One step of the one order, past a new variable that was made ahead of its turn: its block gets its name. -/
theorem advance2 (hΓ : Γ.Ok P) (hF : OrdF (LL P n ops) ms ord TT) {done r : List Ent} {listed : Array Bool} {pb : Nat → Nat} {c : Cx} {h : Heap} {w : World} {e : Env} {a : Act} {j : Nat} {ag : List Nat} (hl : listed.getD j false = true)
    (hd : DInv P Γ n ops ord k kp c0 h0 w0 ds done ((j, true, ag) :: r) listed pb c h w e a) : ∃ c' h' e', DInv P Γ n ops ord k kp c0 h0 w0 ds (done ++ [(j, true, ag)]) r listed pb c' h' w e' a := by
  have hmem : (j, true, ag) ∈ ord := by rw [hd.split]; simp
  obtain ⟨o, ho, hE⟩ := eOk_spec (hF.ent _ hmem)
  have hun : unturned done j := rest_unturned hF hd.split (b := (j, true, ag)) (by simp)
  rcases hd.dc j hl with ⟨b, hb, he⟩ | hpe
  · exact absurd he (hun b hb)
  obtain ⟨⟨o2, t, hLi, hdst, hgd, hm⟩, hge, hlt, hnn, hni⟩ := hpe
  have ho' : (LL P n ops)[j]? = some o := ho
  rw [ho'] at hLi
  obtain rfl := Option.some.inj hLi
  have hanc := listed_anc hF hd.closed hl ho'
  have hpw := hF.pw
  rw [hd.split, List.pairwise_append] at hpw
  have hR : ∀ b ∈ done, ∃ ob, (LL P n ops)[b.1]? = some ob ∧ ROk (LL P n ops) ms b (j, true, ag) ob o := fun b hb => by
    obtain ⟨oa, ob, h1, h2, h3⟩ := rOk_spec (hpw.2.2 b hb (j, true, ag) (by simp))
    have h2' : (LL P n ops)[j]? = some ob := h2
    rw [ho'] at h2'; cases h2'
    exact ⟨oa, h1, h3⟩
  have hcont := hd.cont
  rw [aopsD_cons _ _ _ _ _ _ _ _ _ _ _ (hF.un _ hmem)] at hcont
  rw [getL_eq] at hcont
  rw [ho'] at hcont
  dsimp only at hcont
  replace hcont := (looksK_inv hcont).1
  rw [hgd] at hcont
  dsimp only [guardK] at hcont
  obtain ⟨nn, l⟩ := h
  have hTr : ∀ t' ∈ o.reads, VR c ⟨nn, l⟩ w (Env.get e t') (a.tmps.getD t' undef) := fun t' ht' => by
    refine hd.T t' (fun b hb hl' o' ho2 hdd => ?_) fun p hp hup op hop hdd => ?_
    · obtain ⟨ob, hob, hr⟩ := hR b hb
      rw [ho2] at hob; cases hob
      rw [hanc _ (hr.ab t' hdd ht')] at hl'; cases hl'
    · have h1 := hm.nr hop hdd ht'
      rcases hd.dc p hp with ⟨b, hb, he⟩ | hpp
      · exact absurd he (hup b hb)
      · obtain ⟨o3, t3, hL3, _, _, hm3⟩ := hpp.ex
        rw [hop] at hL3; cases hL3
        rcases hm3.isCB with h | h
        · rw [h1.1] at h; cases h
        · rw [h1.2] at h; cases h
  obtain ⟨sz, elems, ty, C, V, hw, hlr, hcont, hVt⟩ := hm.turn hTr hcont
  rw [hdst] at hcont
  rw [putD_eq] at hcont
  obtain ⟨hc, hag⟩ := againK_inv hΓ (fun q hq oi hoi => hE.ag q hq oi hoi) hcont
  have hvn : ∀ {v' : SV} {x : Value}, VR c ⟨nn, l⟩ w v' x → VR (c.push nn (pb j)) ⟨nn + 1, (nn, .vec 0 sz elems ⟨false, some ty⟩) :: l⟩ w v' x := fun hv => hv.name _ _
  have hβ : ∀ i, i ≠ nn → (c.push nn (pb j)).β i = c.β i := fun i hi => by simp [Cx.push, hi]
  have hβn : (c.push nn (pb j)).β nn = pb j := by simp [Cx.push]
  have hor : ∀ b o', OR c ⟨nn, l⟩ w b o' → OR (c.push nn (pb j)) ⟨nn + 1, (nn, .vec 0 sz elems ⟨false, some ty⟩) :: l⟩ w b o' := by
    intro b o' ho'
    cases ho' with
    | vec g sz' elems sk C ty fz hw hle heq hty hc hf hcell => exact .vec g sz' elems sk C ty fz hw hle heq hty hc hf fun i j e v x h1 h2 h3 => hvn (hcell i j e v x h1 h2 h3)
    | iter s pos hw => exact .iter s pos hw
    | map es cl hw hs => exact .map es cl hw hs
    | miter m since seen stepped r hw hm => exact .miter m since seen stepped r hw (hvn hm)
    | fro g ty xs C fz hw hle hc => exact .fro g ty xs C fz hw hle hc
  have hltn : ∀ i o', objL l i = some o' → i < nn := fun i o' ho' => hd.rep.lt i o' ho'
  have hrep : Rep (c.push nn (pb j)) ⟨nn + 1, (nn, .vec 0 sz elems ⟨false, some ty⟩) :: l⟩ w := by
    refine ⟨fun i o' ho' => ?_, fun i o' ho' => ?_, fun i i' o' p' ho' hp' he => ?_, fun i o' ho' => ?_, hd.rep.im, hd.rep.glob⟩
    · rw [obj_push] at ho'
      by_cases hi : nn = i
      · subst hi; exact Nat.lt_succ_self _
      · rw [if_neg hi] at ho'; exact Nat.lt_succ_of_lt (hltn i o' ho')
    · rw [obj_push] at ho'
      by_cases hi : nn = i
      · subst hi
        rw [if_pos rfl] at ho'; cases ho'
        rw [hβn]
        exact .vec 0 sz elems ⟨false, some ty⟩ C ty (0, 0) hw (by rw [hlr.1]; exact Nat.le_refl _) (fun _ => hlr.1.symm) (fun _ h => (Option.some.inj h).symm) hlr.2.1 (by simp) fun i j' e' u x he hu hx => hvn (hlr.2.2 i j' e' u x he hu hx)
      · rw [if_neg hi] at ho'
        rw [hβ i (fun e => hi e.symm)]
        exact hor _ _ (hd.rep.obj i o' ho')
    · rw [obj_push] at ho' hp'
      by_cases hi : nn = i
      · by_cases hi' : nn = i'
        · omega
        · rw [if_neg hi'] at hp'
          rw [← hi, hβn, hβ i' (fun e => hi' e.symm)] at he
          exact absurd he.symm (hnn i' p' hp')
      · rw [if_neg hi] at ho'
        by_cases hi' : nn = i'
        · rw [← hi', hβn, hβ i (fun e => hi e.symm)] at he
          exact absurd he (hnn i o' ho')
        · rw [if_neg hi'] at hp'
          rw [hβ i (fun e => hi e.symm), hβ i' (fun e => hi' e.symm)] at he
          exact hd.rep.inj i i' o' p' ho' hp' he
    · rw [obj_push] at ho'
      by_cases hi : nn = i
      · rw [← hi, hβn]; exact hni
      · rw [if_neg hi] at ho'
        rw [hβ i (fun e => hi e.symm)]
        exact hd.rep.apart i o' ho'
  have hext : Ext c0 h0 w0 (c.push nn (pb j)) ⟨nn + 1, (nn, .vec 0 sz elems ⟨false, some ty⟩) :: l⟩ w := by
    have hx := hd.ext
    refine ⟨hx.os, hx.tape, hx.output, hx.size, hx.frame, hx.shape, hx.im, hx.im', Nat.le_succ_of_le hx.nxt, fun i o' hi ho' => ?_, fun i o' ho' => ?_⟩
    · have hxn : h0.nxt ≤ nn := hx.nxt
      rw [obj_push, if_neg (by omega)] at ho'
      obtain ⟨o2, h1, h2, h3, h4⟩ := hx.old i o' hi ho'
      exact ⟨o2, h1, h2, h3, fun e => by rw [hβ i (by omega)]; exact h4 e⟩
    · rw [obj_push] at ho'
      by_cases hi : nn = i
      · left; rw [← hi, hβn]; exact hge
      · rw [if_neg hi] at ho'
        rw [hβ i (fun e => hi e.symm)]
        exact hx.new i o' ho'
  have hget : ∀ t', t ≠ t' → Env.get (putE e (some t) V) t' = Env.get e t' := fun t' ht => (putE_get e (some t) _ t').2 (fun e => ht (Option.some.inj e))
  refine ⟨_, _, _, by rw [hd.split]; simp, hrep, hext, hd.size, hd.defers, hd.lsize, hc, fun i hi => ?_, fun i i' hi hi' hu hu' => hd.pinj i i' hi hi' (fun b hb => hu b (by simp [hb])) (fun b hb => hu' b (by simp [hb])), fun b hb hs => ?_, hd.closed, fun t' ht htp => ?_, fun b hb hl' ob hob => ?_⟩
  · by_cases hex : ∃ b ∈ done, b.1 = i
    · obtain ⟨b, hb, he⟩ := hex
      exact .inl ⟨b, by simp [hb], he⟩
    · have hui : unturned done i := fun b hb he => hex ⟨b, hb, he⟩
      by_cases hij : i = j
      · exact .inl ⟨(j, true, ag), by simp, hij.symm⟩
      · rcases hd.dc i hi with h1 | hp
        · exact absurd h1 hex
        · refine .inr ⟨hp.ex, hp.ge, hp.lt, fun q o' ho' => ?_, hp.noim⟩
          rw [obj_push] at ho'
          by_cases hq : nn = q
          · rw [← hq, hβn]
            intro he
            exact hij (hd.pinj i j hi hl hui hun he.symm)
          · rw [if_neg hq] at ho'
            rw [hβ q (fun e => hq e.symm)]
            exact hp.noname q o' ho'
  · rcases List.mem_append.1 hb with hb | hb
    · exact hd.sd b hb hs
    · simp only [List.mem_singleton] at hb; subst hb; exact hl
  · by_cases htt : t = t'
    · subst htt
      rw [(putE_get e (some t) V t).1 rfl]
      exact hVt
    · rw [hget t' htt]
      refine hvn (hd.T t' (fun b hb => ht b (by simp [hb])) fun i hi hu o3 ho3 => ?_)
      by_cases hij : i = j
      · rw [hij, ho'] at ho3
        cases ho3
        rw [hdst]
        exact fun e => htt (Option.some.inj e)
      · refine htp i hi (fun b hb => ?_) o3 ho3
        rcases List.mem_append.1 hb with hb | hb
        · exact hu b hb
        · simp only [List.mem_singleton] at hb; subst hb
          exact fun e => hij e.symm
  · rcases List.mem_append.1 hb with h | h
    · obtain ⟨ob', hob', hr⟩ := hR b h
      rw [hob] at hob'; cases hob'
      have hold : PredV P Γ ob (putE e (some t) V) ⟨nn, l⟩ := (hd.Pd b h hl' ob hob).congr (fun t' ht => (hget t' fun hdd => by
          have := (hr.ba t (by rw [hdst]) (hdd ▸ ht)).2
          rw [hanc _ this] at hl'; cases hl').symm) fun t' ht => (hget t' fun hdd => hr.dst t' ht (by rw [hdst, hdd])).symm
      have hns : b.2.1 = false := by
        cases hs : b.2.1 with
        | false => rfl
        | true => rw [hd.sd b h hs] at hl'; cases hl'
      rcases hr.rd hns rfl with h1 | h1 | h1
      · rw [hanc _ h1] at hl'; cases hl'
      · exact hold.heap h1
      · obtain ⟨v', q1, q2⟩ := hold
        rcases q2 with ⟨q2, _⟩ | q2
        · obtain ⟨ob2, hob2, hE2⟩ := eOk_spec (hF.ent b (by rw [hd.split]; simp [h]))
          rw [hob] at hob2; cases hob2
          exact hag _ h1 ob hob (hE2.cls hns) q2
        · exact ⟨v', q1, .inr q2⟩
    · simp only [List.mem_singleton] at h; subst h
      have hl2 : listed.getD j false = false := hl'
      rw [hl] at hl2; cases hl2

theorem advance (hΓ : Γ.Ok P) (hF : OrdF (LL P n ops) ms ord TT) : ∀ (rest done : List Ent) {listed : Array Bool} {pb : Nat → Nat} {c : Cx} {h : Heap} {w : World} {e : Env} {a : Act}, DInv P Γ n ops ord k kp c0 h0 w0 ds done rest listed pb c h w e a →
    ∃ done' rest' c' h' e', DInv P Γ n ops ord k kp c0 h0 w0 ds done' rest' listed pb c' h' w e' a ∧ (rest' = [] ∨ ∃ j ag r, rest' = (j, true, ag) :: r ∧ listed.getD j false = false)
  | [], done, listed, pb, c, h, w, e, a, hd => ⟨done, [], c, h, e, hd, .inl rfl⟩
  | (j, true, ag) :: r, done, listed, pb, c, h, w, e, a, hd => by
    cases hl : listed.getD j false with
    | false => exact ⟨done, _, c, h, e, hd, .inr ⟨j, ag, r, rfl, hl⟩⟩
    | true =>
      obtain ⟨c', h', e', hd'⟩ := advance2 hΓ hF hl hd
      exact advance hΓ hF r _ hd'
  | (j, false, ag) :: r, done, listed, pb, c, h, w, e, a, hd => by
    obtain ⟨e', hd'⟩ := advance1 hF hd
    exact advance hΓ hF r _ hd'
end

theorem listed_set (listed : Array Bool) (i j : Nat) (hi : i < listed.size) : (listed.setIfInBounds i true).getD j false = if j = i then true else listed.getD j false := by
  rw [Array.getD_eq_getD_getElem?, Array.getElem?_setIfInBounds]
  by_cases h : j = i
  · subst h; simp [hi]
  · rw [if_neg (fun e => h e.symm), if_neg h, Array.getD_eq_getD_getElem?]

def unl (n : Nat) (listed : Array Bool) : Nat := ((List.range n).filter fun i => !listed.getD i false).length
theorem unl_zero {n : Nat} {listed : Array Bool} (h : unl n listed = 0) : ∀ i, i < n → listed.getD i false = true := by
  intro i hi
  unfold unl at h
  have := List.eq_nil_of_length_eq_zero h
  rw [List.filter_eq_nil_iff] at this
  have := this i (List.mem_range.2 hi)
  simpa using this
theorem filter_lt {α : Type} (p q : α → Bool) : ∀ (l : List α), (∀ x ∈ l, q x = true → p x = true) → (∃ x ∈ l, p x = true ∧ q x = false) → (l.filter q).length < (l.filter p).length
  | [], _, ⟨x, hx, _⟩ => by cases hx
  | y :: r, hpq, ⟨x, hx, hpx, hqx⟩ => by
    have hle : ∀ l : List α, (∀ x ∈ l, q x = true → p x = true) → (l.filter q).length ≤ (l.filter p).length := by
      intro l
      induction l with
      | nil => intro _; simp
      | cons z l ih =>
        intro hl
        have := ih fun x hx => hl x (by simp [hx])
        simp only [List.filter_cons]
        cases hq : q z
        · cases hp : p z <;> simp <;> omega
        · rw [hl z (by simp) hq]; simp; omega
    rcases List.mem_cons.1 hx with rfl | hx'
    · simp only [List.filter_cons, hpx, hqx]
      have := hle r fun x hx => hpq x (by simp [hx])
      simp; omega
    · have ih := filter_lt p q r (fun x hx => hpq x (by simp [hx])) ⟨x, hx', hpx, hqx⟩
      simp only [List.filter_cons]
      cases hq : q y
      · cases hp : p y <;> simp <;> omega
      · rw [hpq y (by simp) hq]; simp; omega
theorem unl_set {n : Nat} {listed : Array Bool} {i : Nat} (hi : i < n) (hs : i < listed.size) (hl : listed.getD i false = false) : unl n (listed.setIfInBounds i true) < unl n listed := by
  unfold unl
  refine filter_lt _ _ _ (fun j _ hj => ?_) ⟨i, List.mem_range.2 hi, by simpa using hl, by rw [listed_set _ _ _ hs]; simp⟩
  rw [listed_set _ _ _ hs] at hj
  by_cases h : j = i
  · subst h; simp at hj
  · rw [if_neg h] at hj; exact hj

theorem LL_get {P : Program} {n : Nat} {ops : Array Oper} {i : Nat} (hi : i < ops.size) : (LL P n ops)[i]? = some (cOper P n ops true ops[i]) := by
  simp [LL, hi]
theorem LL_len {P : Program} {n : Nat} {ops : Array Oper} : (LL P n ops).length = ops.size := by simp [LL]

theorem binds_eq (e : Edge) : bindsAny e = Region.binds .any e := by
  unfold bindsAny Region.binds
  cases e.ground <;> rfl

section
variable {P : Program} {Γ : CallR} {n : Nat} {ops : Array Oper} {ord : List Ent} {TT : List Nat} {ms : List Nat} {k : Env → Heap → Prop} {kp : SV → Env → Heap → Prop} {Q : Exit → Act → World → Prop} {c0 : Cx} {h0 : Heap} {w0 : World} {ds : List Deferred}

theorem ready_spec {listed : Array Bool} {i : Nat} (hs : listed.size = ops.size) (hi : i ∈ Region.ready .any ops listed) : ∃ hlt : i < ops.size, listed.getD i false = false ∧ ∀ e ∈ (ops[i]).after.toList, bindsAny e = true → listed.getD e.on false = true := by
  unfold Region.ready at hi
  obtain ⟨h1, h2⟩ := List.mem_filter.1 hi
  have hlt := List.mem_range.1 h1
  refine ⟨hlt, ?_⟩
  simp only [Bool.and_eq_true, Bool.not_eq_true'] at h2
  have hlt' : i < listed.size := by omega
  have e1 : ∀ d, listed.getD i d = listed[i] := fun d => by simp [Array.getD_eq_getD_getElem?, hlt']
  refine ⟨by rw [e1]; rw [e1] at h2; exact h2.1, fun e he hb => ?_⟩
  have h3 := h2.2
  rw [Array.getElem?_eq_getElem hlt] at h3
  simp only [Option.map_some, Option.getD_some] at h3
  rw [← Array.all_toList] at h3
  have := List.all_eq_true.1 h3 e he
  rw [← binds_eq, hb] at this
  simpa using this

theorem all_listed (hF : OrdF (LL P n ops) ms ord TT) {listed : Array Bool} (hs : listed.size = ops.size) (hr : Region.ready .any ops listed = []) : ∀ (m i : Nat), i < m → i < ops.size → listed.getD i false = true
  | 0, i, h, _ => by omega
  | m+1, i, h, hi => by
    cases hl : listed.getD i false with
    | true => rfl
    | false =>
      exfalso
      have hmem : i ∈ Region.ready .any ops listed := by
        unfold Region.ready
        refine List.mem_filter.2 ⟨List.mem_range.2 hi, ?_⟩
        have hlt' : i < listed.size := by omega
        have e1 : ∀ d, listed.getD i d = listed[i] := fun d => by simp [Array.getD_eq_getD_getElem?, hlt']
        rw [e1] at hl
        simp only [e1, hl, Bool.not_false, Bool.true_and]
        rw [Array.getElem?_eq_getElem hi]
        simp only [Option.map_some, Option.getD_some]
        rw [← Array.all_toList]
        refine List.all_eq_true.2 fun e he => ?_
        cases hb : Region.binds .any e with
        | false => rfl
        | true =>
          have hgood : (cOper P n ops true ops[i]).op.isBad = false := by
            rcases hF.all i (by rw [LL_len]; exact hi) with ⟨b, hbm, hbe⟩ | hT
            · obtain ⟨o, ho, hE⟩ := eOk_spec (hF.ent b hbm)
              rw [hbe, LL_get hi] at ho
              cases ho
              exact hE.good
            · obtain ⟨o, ho, hg, _⟩ := hF.tail i hT
              rw [LL_get hi] at ho
              cases ho
              exact hg
          obtain ⟨_, _, _, hpre, _⟩ := cOper_ok hgood
          have hon : e.on ∈ (cOper P n ops true ops[i]).pre := by
            rw [hpre]
            exact List.mem_filterMap.2 ⟨e, he, by rw [binds_eq, hb]; rfl⟩
          have hlt := (hF.mask i _ (LL_get hi)).2 _ hon
          have := all_listed hF hs hr m e.on (by omega) (by omega)
          simpa using this
      rw [hr] at hmem
      cases hmem

theorem dmain (hΓ : Γ.Ok P) (hF : OrdF (LL P n ops) ms ord TT)
    (hK : ∀ (fuel : Nat) (listed : Array Bool) (e : Env) (h : Heap) (c : Cx) (a : Act) (w : World), unl ops.size listed ≤ fuel → listed.size = ops.size → (∀ i, i < ops.size → i ∉ TT → listed.getD i false = true) → (∀ i ∈ TT, listed.getD i false = false) →
      k e h → Rep c h w → Ext c0 h0 w0 c h w → ER c h w e a.tmps → a.tmps.size = n → a.defers = ds → wpAny P .any ops Q fuel listed a w)
    (hKP : ∀ v x h c a w, kp v [] h → Rep c h w → Ext c0 h0 w0 c h w → a.tmps.size = n → a.defers = ds → VR c h w v x → Q (.panic [{ v := x, recovered := false }]) a w) (hr0 : Rep c0 h0 w0) :
    ∀ (fuel : Nat) (done rest : List Ent) (listed : Array Bool) (pb : Nat → Nat) (c : Cx) (h : Heap) (w : World) (e : Env) (a : Act), (∀ i ∈ TT, listed.getD i false = false) → unl ops.size listed ≤ fuel → DInv P Γ n ops ord k kp c0 h0 w0 ds done rest listed pb c h w e a → wpAny P .any ops Q fuel listed a w := by
  have hordT : ∀ b ∈ ord, b.1 < ops.size := fun b hb => by
      obtain ⟨o, ho, _⟩ := eOk_spec (hF.ent b hb)
      rcases Nat.lt_or_ge b.1 (LL P n ops).length with h | h
      · rw [LL_len] at h; exact h
      · rw [List.getElem?_eq_none h] at ho; cases ho
  have hdisj : ∀ b ∈ ord, b.1 ∉ TT := fun b hb hT => by
    obtain ⟨o, ho, _, _, h2⟩ := hF.tail _ hT
    have h3 := h2 b hb
    -- an operation is not ahead of itself
    have := mask_lt hF (b.1 + 1) b.1 (Nat.lt_succ_self _) ho b.1 h3
    omega
  -- all but the last ones have run
  have hend : ∀ (fuel : Nat) (done rest : List Ent) (listed : Array Bool) (pb : Nat → Nat) (c : Cx) (h : Heap) (w : World) (e : Env) (a : Act), (∀ i, i < ops.size → i ∉ TT → listed.getD i false = true) → (∀ i ∈ TT, listed.getD i false = false) → unl ops.size listed ≤ fuel → DInv P Γ n ops ord k kp c0 h0 w0 ds done rest listed pb c h w e a → wpAny P .any ops Q fuel listed a w := by
    intro fuel done rest listed pb c h w e a hall hTl hu hd
    obtain ⟨done', rest', c', h', e', hd', hor⟩ := advance hΓ hF rest done hd
    have hnil : rest' = [] := by
      rcases hor with h | ⟨j, ag, r, rfl, h1⟩
      · exact h
      · have hjm : (j, true, ag) ∈ ord := by rw [hd'.split]; simp
        have h2 := hall j (hordT _ hjm) (hdisj _ hjm)
        rw [h2] at h1; cases h1
    subst hnil
    have hc := hd'.cont
    exact hK fuel listed e' h' c' a w hu hd'.lsize hall hTl hc hd'.rep hd'.ext (fun t => hd'.T t (fun b hb hl => by
      have hbm : b ∈ ord := by rw [hd'.split]; simp [hb]
      have := hall b.1 (hordT b hbm) (hdisj b hbm)
      rw [this] at hl; cases hl) fun i hi hu o ho => by
      have hil : i < (LL P n ops).length := by
        rcases Nat.lt_or_ge i (LL P n ops).length with h | h
        · exact h
        · rw [List.getElem?_eq_none h] at ho; cases ho
      rcases hF.all i hil with ⟨b, hb, he⟩ | hT
      · rw [hd'.split, List.append_nil] at hb
        exact absurd he (hu b hb)
      · rw [hTl i hT] at hi; cases hi) hd'.size hd'.defers
  intro fuel
  induction fuel with
  | zero =>
    intro done rest listed pb c h w e a hTl hu hd
    have hall := unl_zero (Nat.le_zero.1 hu)
    exact hend 0 done rest listed pb c h w e a (fun i hi _ => hall i hi) hTl hu hd
  | succ fuel ih =>
    intro done rest listed pb c h w e a hTl hu hd
    by_cases hallP : ∀ i, i < ops.size → i ∉ TT → listed.getD i false = true
    · exact hend (fuel + 1) done rest listed pb c h w e a hallP hTl hu hd
    refine ⟨fun hr => absurd (fun i hi _ => all_listed hF hd.lsize hr (i + 1) i (Nat.lt_succ_self _) hi) hallP, fun i hi => ?_⟩
    obtain ⟨hlt, hl, hpre⟩ := ready_spec hd.lsize hi
    obtain ⟨done', rest', c1, h1, e', hd', hor⟩ := advance hΓ hF rest done hd
    clear hd
    clear c h
    revert hd'
    generalize hc1 : c1 = c
    generalize hh1 : h1 = h
    intro hd'
    clear hc1 hh1 c1 h1
    have hLi := LL_get (P := P) (n := n) hlt
    have hiT : i ∉ TT := fun hT => hallP fun j hj hjT => by
      obtain ⟨o, ho, hg, _, hanc⟩ := hF.tail i hT
      rw [LL_get hlt] at ho
      cases ho
      obtain ⟨_, _, _, hpr, _⟩ := cOper_ok hg
      have hpreL : ∀ j ∈ (cOper P n ops true ops[i]).pre, listed.getD j false = true := fun j hj => by
        rw [hpr] at hj
        obtain ⟨ed, hed, hbb⟩ := List.mem_filterMap.1 hj
        cases hbd : bindsAny ed
        · rw [hbd] at hbb; cases hbb
        · rw [hbd] at hbb
          simp only [cond_true, Option.some.injEq] at hbb
          rw [← hbb]; exact hpre ed hed hbd
      rcases hF.all j (by rw [LL_len]; exact hj) with ⟨b, hb, rfl⟩ | h
      · exact anc_listed hF hd'.closed (i + 1) i _ (Nat.lt_succ_self _) hLi hpreL _ (hanc b hb)
      · exact absurd h hjT
    obtain ⟨b, hbm, hbe⟩ := (hF.all i (by rw [LL_len]; exact hlt)).resolve_right hiT
    have hTl' : ∀ j ∈ TT, (listed.setIfInBounds i true).getD j false = false := fun j hj => by
      rw [listed_set listed i j (by rw [hd'.lsize]; exact hlt), if_neg (show ¬ j = i from fun he => hiT (by rw [← he]; exact hj))]
      exact hTl j hj
    obtain ⟨o, ho, hE⟩ := eOk_spec (hF.ent b hbm)
    rw [hbe, hLi] at ho
    cases ho
    obtain ⟨hdst, hop, hdlt, hpr, _⟩ := cOper_ok hE.good
    have hpreL : ∀ j ∈ (cOper P n ops true ops[i]).pre, listed.getD j false = true := fun j hj => by
      rw [hpr] at hj
      obtain ⟨ed, hed, hbb⟩ := List.mem_filterMap.1 hj
      cases hbd : bindsAny ed
      · rw [hbd] at hbb; cases hbb
      · rw [hbd] at hbb
        simp only [cond_true, Option.some.injEq] at hbb
        rw [← hbb]; exact hpre ed hed hbd
    have hanc : ∀ q, Nat.testBit (ms.getD i 0) q = true → listed.getD q false = true := anc_listed hF hd'.closed (i + 1) i _ (Nat.lt_succ_self _) hLi hpreL
    have hil : i < listed.size := by rw [hd'.lsize]; exact hlt
    have hu' : unl ops.size (listed.setIfInBounds i true) ≤ fuel := by
      have := unl_set hlt hil hl
      omega
    have hget := fun j => listed_set listed i j hil
    have hmono : ∀ j, listed.getD j false = true → (listed.setIfInBounds i true).getD j false = true := fun j hj => by rw [hget]; split <;> simp [hj]
    have hun : ∀ j, (listed.setIfInBounds i true).getD j false = false → listed.getD j false = false ∧ j ≠ i := fun j hj => by
      rw [hget] at hj
      by_cases h : j = i
      · rw [if_pos h] at hj; cases hj
      · rw [if_neg h] at hj; exact ⟨hj, h⟩
    have hclosed : ∀ j, (listed.setIfInBounds i true).getD j false = true → ∀ o, (LL P n ops)[j]? = some o → ∀ q ∈ o.pre, (listed.setIfInBounds i true).getD q false = true := by
      intro j hj o ho q hq
      rw [hget] at hj
      by_cases h : j = i
      · subst h; rw [hLi] at ho; cases ho; exact hmono q (hpreL q hq)
      · rw [if_neg h] at hj; exact hmono q (hd'.closed j hj o ho q hq)
    have hls : (listed.setIfInBounds i true).size = ops.size := by simp [hd'.lsize]
    have hput : ∀ x t, (a.put ops[i].dst x).tmps.getD t undef = if ops[i].dst = some t then x else a.tmps.getD t undef := by
      intro x t
      cases hdd : ops[i].dst with
      | none => simp [Act.put]
      | some d =>
        simp only [Act.put, Array.getD_eq_getD_getElem?, Array.getElem?_setIfInBounds, Option.some.injEq]
        by_cases h : d = t
        · subst h
          have hd1 : d < a.tmps.size := by rw [hd'.size]; exact hdlt d hdd
          simp [hd1]
        · simp [h]
    have hpwd := hF.pw
    rw [hd'.split, List.pairwise_append] at hpwd
    have hpendR : ∀ p, listed.getD p false = true → unturned done' p → ∀ o, (LL P n ops)[p]? = some o → ∃ bp, bp ∈ rest' ∧ bp.1 = p ∧ ∀ q, Nat.testBit (ms.getD p 0) q = true → listed.getD q false = true := by
      intro p hp hup o ho
      have hpl : p < (LL P n ops).length := by
        rcases Nat.lt_or_ge p (LL P n ops).length with h | h
        · exact h
        · rw [List.getElem?_eq_none h] at ho; cases ho
      obtain ⟨bp, hbp, hbe'⟩ := (hF.all p hpl).resolve_right (fun hT => by rw [hTl p hT] at hp; cases hp)
      rw [hd'.split] at hbp
      rcases List.mem_append.1 hbp with h | h
      · exact absurd hbe' (hup bp h)
      · exact ⟨bp, h, hbe', listed_anc hF hd'.closed hp ho⟩
    by_cases hin : b ∈ done'
    · -- gone through already: what it reads is as it was told
      have hst : b.2.1 = false := by
        cases hs : b.2.1 with
        | false => rfl
        | true =>
          have := hd'.sd b hin hs
          rw [hbe, hl] at this; cases this
      obtain ⟨v, hv1, hv2⟩ := hd'.Pd b hin (by rw [hbe]; exact hl) _ (by rw [hbe]; exact hLi)
      have hT : ∀ t ∈ (cOper P n ops true ops[i]).reads, VR c h w (Env.get e' t) (a.tmps.getD t undef) := by
        intro t ht
        refine hd'.T t (fun b' hb' hl' o' ho' hdd => ?_) fun p hp hup op hop' hdd => by
          obtain ⟨bp, hbp, hbpe, hpa⟩ := hpendR p hp hup op hop'
          obtain ⟨oa, ob, h1, h2, hr⟩ := rOk_spec (hpwd.2.2 b hin bp hbp)
          rw [hbe, hLi] at h1; cases h1
          rw [hbpe, hop'] at h2; cases h2
          have := (hr.ba t hdd ht).2
          rw [hbpe, hbe] at this
          rw [hpa _ this] at hl; cases hl
        rcases pairwise_or hpwd.1 b' hb' b hin with rfl | hR | hR
        · rw [hbe, hLi] at ho'; cases ho'
          exact hE.self hst t hdd ht
        · obtain ⟨oa, ob, h1, h2, hr⟩ := rOk_spec hR
          rw [ho'] at h1; cases h1
          rw [hbe, hLi] at h2; cases h2
          have := hr.ab t hdd ht
          rw [hbe] at this
          rw [hanc _ this] at hl'; cases hl'
        · obtain ⟨oa, ob, h1, h2, hr⟩ := rOk_spec hR
          rw [ho'] at h2; cases h2
          rw [hbe, hLi] at h1; cases h1
          have := (hr.ba t hdd ht).1
          rw [hd'.sd b' hb' this] at hl'; cases hl'
      have hslot : ∀ p, listed.getD p false = true → unturned done' p → ∀ o t, (LL P n ops)[p]? = some o → o.dst = some t ∨ t ∈ o.reads → ops[i].dst ≠ some t := by
        intro p hp hup o t ho hot hit
        obtain ⟨bp, hbp, hbpe, hpa⟩ := hpendR p hp hup o ho
        obtain ⟨oa, ob, h1, h2, hr⟩ := rOk_spec (hpwd.2.2 b hin bp hbp)
        rw [hbe, hLi] at h1; cases h1
        rw [hbpe, ho] at h2; cases h2
        rcases hot with hot | hot
        · exact hr.dst t (by rw [hdst]; exact hit) hot
        · have := hr.ab t (by rw [hdst]; exact hit) hot
          rw [hbpe, hbe] at this
          rw [hpa _ this] at hl; cases hl
      have hdc : ∀ (x : Value) (c' : Cx) (w' : World), Ext c h w c' h w' → ∀ j, (listed.setIfInBounds i true).getD j false = true → (∃ b ∈ done', b.1 = j) ∨ PendAt P n ops w0 pb c' h w' (a.put ops[i].dst x) j := fun x c' w' hx' j hj => by
        rw [hget] at hj
        by_cases h : j = i
        · exact .inl ⟨b, hin, by rw [hbe, h]⟩
        · rw [if_neg h] at hj
          by_cases hex : ∃ b ∈ done', b.1 = j
          · exact .inl hex
          · have huj : unturned done' j := fun b hb he => hex ⟨b, hb, he⟩
            refine .inr (((hd'.dc j hj).resolve_left hex).mono hx' fun o t ho hot => ?_)
            rw [hput, if_neg (hslot j hj huj o t ho hot)]
      have hpinj : ∀ p q, (listed.setIfInBounds i true).getD p false = true → (listed.setIfInBounds i true).getD q false = true → unturned done' p → unturned done' q → pb p = pb q → p = q := by
        intro p q hp hq hup huq he
        have hpi : p ≠ i := fun h => hup b hin (by rw [hbe, h])
        have hqi : q ≠ i := fun h => huq b hin (by rw [hbe, h])
        rw [hget, if_neg hpi] at hp
        rw [hget, if_neg hqi] at hq
        exact hd'.pinj p q hp hq hup huq he
      have fin : ∀ (x : Value) (c' : Cx) (w' : World), Rep c' h w' → Ext c h w c' h w' → (∀ t, ops[i].dst = some t → VR c' h w' (Env.get e' t) x) → wpAny P .any ops Q fuel (listed.setIfInBounds i true) (a.put ops[i].dst x) w' := by
        intro x c' w' hr' hx' hxv
        refine ih done' rest' _ pb c' h w' e' _ hTl' hu' ⟨hd'.split, hr', hd'.ext.trans hr0 hx', by rw [put_size]; exact hd'.size, by rw [put_defers]; exact hd'.defers, hls, hd'.cont, hdc x c' w' hx', hpinj, fun b' hb' hs => hmono _ (hd'.sd b' hb' hs), hclosed, fun t ht htp => ?_, fun b' hb' hl' o' ho' => hd'.Pd b' hb' (hun _ hl').1 o' ho'⟩
        rw [hput]
        by_cases hdt : ops[i].dst = some t
        · rw [if_pos hdt]; exact hxv t hdt
        · rw [if_neg hdt]
          refine (hd'.T t (fun b' hb' hl' o' ho' => ?_) fun p hp hup => htp p (hmono p hp) hup).mono hd'.rep hx'
          by_cases hbi : b'.1 = i
          · rw [hbi, hLi] at ho'; cases ho'
            rw [hdst]; exact hdt
          · exact ht b' hb' (by rw [hget, if_neg hbi]; exact hl') o' ho'
      rcases hv2 with ⟨hw, hv2⟩ | ⟨hw, rfl⟩
      · refine exec_op hΓ (b := true) (Array.getElem?_eq_getElem hlt) hE.good hd'.rep hT hd'.size hw (k := fun v' h' => v' = v ∧ h' = h) (kp := fun _ _ => False) (fun _ => hv2 _ _ ⟨rfl, rfl⟩) (fun _ v' x h' c' w' hk hr' hx' hvx => ?_) (fun _ v' x h' c' w' hk => hk.elim) (fun hf => by cases hf)
        obtain ⟨rfl, rfl⟩ := hk
        exact fin x c' w' hr' hx' fun t ht => (hv1 t (by rw [hdst]; exact ht)).vr hvx
      · refine exec_op hΓ (b := false) (Array.getElem?_eq_getElem hlt) hE.good hd'.rep hT hd'.size hw (k := fun _ _ => False) (kp := fun _ _ => False) (fun hf => by cases hf) (fun hf => by cases hf) (fun hf => by cases hf) (fun _ => ?_)
        exact fin _ c w hd'.rep .refl fun t ht => (hv1 t (by rw [hdst]; exact ht)).vr <| .pure (.tup _ _ rfl fun i v x hv => by simp at hv)
    · -- the next that acts
      have hbr : b ∈ rest' := by
        rw [hd'.split] at hbm
        rcases List.mem_append.1 hbm with h | h
        · exact absurd h hin
        · exact h
      rcases hor with rfl | ⟨j, ag, r, rfl, hlj⟩
      · cases hbr
      have hcase : b = (j, true, ag) ∨ isC (cOper P n ops true ops[i]) = true ∨ (isB (cOper P n ops true ops[i]) = true ∧ i ∈ ag) := by
        rcases List.mem_cons.1 hbr with h | h
        · exact .inl h
        · right
          obtain ⟨oa, ob, h1, h2, hr⟩ := rOk_spec ((List.pairwise_cons.1 hpwd.2.1).1 b h)
          rw [hbe, hLi] at h2; cases h2
          rcases hr.st rfl with h3 | h3
          · rw [hbe] at h3
            have h4 : listed.getD j false = true := hanc _ h3
            rw [h4] at hlj; cases hlj
          · rw [hbe] at h3; exact h3
      have hui : unturned done' i := fun b' hb' he => by
        have := rest_unturned hF hd'.split hbr b' hb'
        rw [hbe] at this
        exact this he
      by_cases hbj : b = (j, true, ag)
      case neg =>
        -- made ahead of its turn
        have hCB := hcase.resolve_left hbj
        have hgd : (cOper P n ops true ops[i]).guard = none := by
          rcases hCB with h1 | h1
          · obtain ⟨t, ty, sz, v, pre, hoe, _⟩ := isC_inv h1
            rw [hoe]
          · obtain ⟨t, ty, sz, z, m, ps, pre, hoe⟩ := isB_inv h1.1
            rw [hoe]
        have hgd' : ops[i].guard = none := by
          obtain ⟨_, _, _, _, hg⟩ := cOper_ok hE.good
          cases hgo : ops[i].guard with
          | none => rfl
          | some gw =>
            obtain ⟨q, want⟩ := gw
            rw [hgo] at hg
            obtain ⟨t', _, _, hg⟩ := hg
            rw [hgd] at hg; cases hg
        obtain ⟨t, x, C, ty, hdd, hrun, hmade⟩ : ∃ t x C ty, ops[i].dst = some t ∧ (execOp a.eval ops[i]).run P w = .ok (.value x) (w.alloc (.cells C ty)) ∧ Made (LL P n ops) (cOper P n ops true ops[i]) t w.heap.size (w.alloc (.cells C ty)) (a.put ops[i].dst x) := by
          rcases hCB with h1 | ⟨h1, h2⟩
          · obtain ⟨t, ty, sz, v, pre, hoe, hvl, hvu⟩ := isC_inv h1
            have hopp : cOp P ops[i].op = .box ty sz (.const v) := by rw [← hop, hoe]
            have hdd : ops[i].dst = some t := by rw [← hdst, hoe]
            obtain ⟨x, hrun, hvp⟩ := cbox_run (P := P) (w := w) (a := a) (o := ops[i]) hopp
            have hxs : x.cells.size = v.cells.length := (vcells (c := c) (h := h) (w := w) (.pure (hvp _ _)) hvu).1
            exact ⟨t, _, _, _, hdd, hrun, .inl ⟨h1, by rw [hoe]; rfl, ty, sz, v, x.cells, by rw [hoe], hvl, hvu, by rw [hput, if_pos hdd], heap_new _ _, by rw [hxs]; exact hvl, fun j' u y hu hy Im w' => (hvp Im w').cells hu hy⟩⟩
          · obtain ⟨t, ty, sz, z0, m, parts, pre, hoe⟩ := isB_inv h1
            have hdd : ops[i].dst = some t := by rw [← hdst, hoe]
            have hopp : cOp P ops[i].op = .buildSlice ty sz z0 m parts := by rw [← hop, hoe]
            obtain ⟨tt, ps, ti, z, hoo, hu1, hi1, hz1, hn1, hs1, hk1, rfl, rfl, rfl⟩ := cbs_inv hopp
            have hjm : (j, true, ag) ∈ ord := by rw [hd'.split]; simp
            obtain ⟨oj, hoj, hEj⟩ := eOk_spec (hF.ent _ hjm)
            have hnr := hEj.lk i h2 _ hLi h1
            have hcont := hd'.cont
            rw [aopsD_cons _ _ _ _ _ _ _ _ _ _ _ (hF.un _ hjm)] at hcont
            have hoj' : (LL P n ops)[j]? = some oj := hoj
            rw [getL_eq, hoj'] at hcont
            dsimp only at hcont
            have hlook := (looksK_inv hcont).2 i h2 _ hLi h1
            have hopo : (cOper P n ops true ops[i]).op = .buildSlice ty ti.size (ofVal 4 z) m (ps.toList.map fun (j, x) => (j, cOpd x)) := by rw [hoe]
            rw [hopo] at hlook
            simp only [aop, replK_eq] at hlook
            have hsub : ∀ t' ∈ (ps.toList.map fun (j, x) => (j, cOpd x)).flatMap (fun p => p.2.use), t' ∈ (cOper P n ops true ops[i]).reads := fun t' ht' => by
              unfold AOper.reads
              rw [hopo]
              exact List.mem_append_left _ ht'
            have her : ER c h w (Env.only (cOper P n ops true ops[i]).reads e') a.tmps := fun t' => by
              rw [get_only]
              split
              · rename_i ht'
                refine hd'.T t' (fun b' hb' hl' o' ho' hdd' => ?_) fun p hp hup op hop' hdd' => ?_
                · obtain ⟨oa, ob, q1, q2, hr⟩ := rOk_spec (hpwd.2.2 b' hb' b hbr)
                  rw [ho'] at q1; cases q1
                  rw [hbe, hLi] at q2; cases q2
                  have := hr.ab t' hdd' ht'
                  rw [hbe] at this
                  rw [hanc _ this] at hl'; cases hl'
                · have q1 := hnr p op t' hop' hdd' ht'
                  rcases hd'.dc p hp with ⟨b', hb', he⟩ | hpp
                  · exact absurd he (hup b' hb')
                  · obtain ⟨o3, t3, hL3, _, _, hm3⟩ := hpp.ex
                    rw [hop'] at hL3; cases hL3
                    rcases hm3.isCB with h | h
                    · rw [q1.1] at h; cases h
                    · rw [q1.2] at h; cases h
              · exact .undef
            rw [elems_congr (e' := Env.only (cOper P n ops true ops[i]).reads e') (fun t' ht' => by rw [get_only, if_pos (hsub t' ht')])] at hlook
            have hzl : ∀ (c : Cx) (h : Heap) (w : World), LR c h w ti.size (List.replicate m (ofVal 4 z)) ((Array.range (m * ti.size)).map (z.cells[· % z.cells.size]!)) := fun c h w => zeros_lr (.pure (ofVal_vp 4 z)) hk1 hs1 m
            obtain ⟨cs', C', _, hf, _, _⟩ := fillElems_run her ti.size ps.toList _ _ (hzl _ _ _) hlook
            have hself : t ∉ (cOper P n ops true ops[i]).reads := fun hr => by
              have := (hnr i _ t hLi (by rw [hdst]; exact hdd) hr).2
              rw [h1] at this; cases this
            refine ⟨t, _, C', ty, hdd, buildSlice_run hoo hu1 hi1 hz1 hn1 hf, .inr ⟨h1, hnr, ty, ti.size, ofVal 4 z, m, ps.toList, _, C', hopo, hzl, ?_, by rw [hput, if_pos hdd], heap_new _ _⟩⟩
            have he2 : (ps.toList.map fun (j, x) => (j, (a.put ops[i].dst (.slice (some ⟨w.heap.size, 0, none⟩) m m)).eval x)) = ps.toList.map fun (j, x) => (j, a.eval x) := by
              refine List.map_congr_left fun p hp => ?_
              obtain ⟨j', x⟩ := p
              dsimp only
              rw [eval_congr' (a := a) x fun t' ht' => ?_]
              rw [hput, if_neg]
              rw [hdd]
              intro he
              refine hself ?_
              rw [Option.some.inj he]
              exact hsub t' (List.mem_flatMap.2 ⟨(j', cOpd x), List.mem_map.2 ⟨(j', x), hp, rfl⟩, ht'⟩)
            rw [he2]; exact hf
        unfold wpOp
        rw [Array.getElem?_eq_getElem hlt]
        dsimp only
        rw [if_pos (by simp [Region.wanted, hgd'])]
        refine .inl ?_
        unfold Oper.wp
        rw [hrun, Oper.upon_value]
        have hx' : Ext c h w c h (w.alloc (.cells C ty)) := ext_alloc _
        have hnm : ∀ q, listed.getD q false = true → unturned done' q → pb q < w.heap.size := fun q hq huq => by
          rcases hd'.dc q hq with ⟨b', hb', he⟩ | hp
          · exact absurd he (huq b' hb')
          · exact hp.lt
        refine ih done' _ _ (fun q => if q = i then w.heap.size else pb q) c h _ e' _ hTl' hu' ⟨hd'.split, rep_same hd'.rep hx' (fun q o ho => heap_push w _ _ (hd'.rep.obj q o ho).lt), hd'.ext.trans hr0 hx', by rw [put_size]; exact hd'.size, by rw [put_defers]; exact hd'.defers, hls, hd'.cont, fun q hq => ?_, fun p q hp hq hup huq he => ?_,
          fun b' hb' hs => hmono _ (hd'.sd b' hb' hs), hclosed, fun t' ht htp => ?_, fun b' hb' hl' o' ho' => hd'.Pd b' hb' (hun _ hl').1 o' ho'⟩
        · rw [hget] at hq
          by_cases hqi : q = i
          · subst hqi
            refine .inr ⟨⟨_, t, hLi, by rw [hdst]; exact hdd, hgd, by rw [if_pos rfl]; exact hmade⟩, ?_, ?_, fun q' o' ho' => ?_, fun hb => ?_⟩
            · rw [if_pos rfl]; exact hd'.ext.size
            · rw [if_pos rfl, heap_size]; exact Nat.lt_succ_self _
            · rw [if_pos rfl]
              have := (hd'.rep.obj q' o' ho').lt
              omega
            · rw [if_pos rfl] at hb
              have := hd'.rep.im _ hb
              omega
          · rw [if_neg hqi] at hq
            by_cases hex : ∃ b ∈ done', b.1 = q
            · exact .inl hex
            · have huq : unturned done' q := fun b hb he => hex ⟨b, hb, he⟩
              have hp := (((hd'.dc q hq).resolve_left hex).mono (a' := a.put ops[i].dst x) hx' fun o t' ho hot => by
                rw [hput, if_neg]
                intro he
                rcases hot with hot | hot
                rotate_left
                · obtain ⟨o3, t3, hL3, _, _, hm3⟩ := ((hd'.dc q hq).resolve_left hex).ex
                  rw [ho] at hL3; cases hL3
                  have q1 := hm3.nr hLi (by rw [hdst]; exact he) hot
                  rcases hCB with h | h
                  · rw [q1.1] at h; cases h
                  · rw [q1.2] at h; cases h.1
                obtain ⟨bp, hbp, hbpe, _⟩ := hpendR q hq huq o ho
                have hne : bp ≠ b := fun h => hqi (by rw [← hbpe, h, hbe])
                rcases pairwise_or hpwd.2.1 bp hbp b hbr with h | h | h
                · exact hne h
                · obtain ⟨oa, ob, h1, h2, hr⟩ := rOk_spec h
                  rw [hbpe, ho] at h1; cases h1
                  rw [hbe, hLi] at h2; cases h2
                  exact hr.dst t' hot (by rw [hdst]; exact he)
                · obtain ⟨oa, ob, h1, h2, hr⟩ := rOk_spec h
                  rw [hbe, hLi] at h1; cases h1
                  rw [hbpe, ho] at h2; cases h2
                  exact hr.dst t' (by rw [hdst]; exact he) hot)
              refine .inr ⟨?_, ?_, ?_, ?_, ?_⟩
              · have := hp.ex
                simpa only [if_neg hqi] using this
              · simpa only [if_neg hqi] using hp.ge
              · simpa only [if_neg hqi] using hp.lt
              · simpa only [if_neg hqi] using hp.noname
              · simpa only [if_neg hqi] using hp.noim
        · rw [hget] at hp hq
          by_cases hpi : p = i <;> by_cases hqi : q = i
          · rw [hpi, hqi]
          · rw [if_pos hpi, if_neg hqi] at he
            rw [if_neg hqi] at hq
            have := hnm q hq huq
            omega
          · rw [if_neg hpi, if_pos hqi] at he
            rw [if_neg hpi] at hp
            have := hnm p hp hup
            omega
          · rw [if_neg hpi, if_neg hqi] at he
            rw [if_neg hpi] at hp
            rw [if_neg hqi] at hq
            exact hd'.pinj p q hp hq hup huq he
        · have hne : t ≠ t' := fun h => htp i (by rw [hget, if_pos rfl]) hui _ hLi (by rw [hdst, hdd, h])
          rw [hput, if_neg (by rw [hdd]; exact fun h => hne (Option.some.inj h))]
          refine (hd'.T t' (fun b' hb' hl' o' ho' => ht b' hb' ?_ o' ho') fun p hp hup => htp p (hmono p hp) hup).mono hd'.rep hx'
          rw [hget, if_neg (fun h => hui b' hb' h)]
          exact hl'
      subst hbj
      have hji : j = i := hbe
      subst hji
      have hR : ∀ b' ∈ done', ∃ ob, (LL P n ops)[b'.1]? = some ob ∧ ROk (LL P n ops) ms b' (j, true, ag) ob (cOper P n ops true ops[j]) := fun b' hb' => by
        obtain ⟨oa, ob, h1, h2, h3⟩ := rOk_spec (hpwd.2.2 b' hb' (j, true, ag) (by simp))
        have h2' : (LL P n ops)[j]? = some ob := h2
        rw [hLi] at h2'; cases h2'
        exact ⟨oa, h1, h3⟩
      have hT : ∀ t ∈ (cOper P n ops true ops[j]).reads, VR c h w (Env.get e' t) (a.tmps.getD t undef) := by
        intro t ht
        refine hd'.T t (fun b' hb' hl' o' ho' hdd => ?_) fun p hp hup op hop' hdd => by
          obtain ⟨bp, hbp, hbpe, hpa⟩ := hpendR p hp hup op hop'
          rcases List.mem_cons.1 hbp with h | h
          · rw [← hbpe, h] at hp
            have hp' : listed.getD j false = true := hp
            rw [hp'] at hl; cases hl
          · obtain ⟨oa, ob, h1, h2, hr⟩ := rOk_spec ((List.pairwise_cons.1 hpwd.2.1).1 bp h)
            have h1' : (LL P n ops)[j]? = some oa := h1
            rw [hLi] at h1'; cases h1'
            rw [hbpe, hop'] at h2; cases h2
            have := (hr.ba t hdd ht).2
            rw [hbpe] at this
            have h4 : listed.getD j false = true := hpa _ this
            rw [h4] at hl; cases hl
        obtain ⟨ob, hob, hr⟩ := hR b' hb'
        rw [ho'] at hob; cases hob
        rw [hanc _ (hr.ab t hdd ht)] at hl'; cases hl'
      have hcont := hd'.cont
      rw [aopsD_cons _ _ _ _ _ _ _ _ _ _ _ (hF.un (j, true, ag) (by rw [hd'.split]; simp))] at hcont
      rw [getL_eq, hLi] at hcont
      dsimp only at hcont
      replace hcont := (looksK_inv hcont).1
      have hdc : ∀ (x : Value) (c' : Cx) (h' : Heap) (w' : World), Ext c h w c' h' w' → ∀ q, (listed.setIfInBounds j true).getD q false = true → (∃ b ∈ done' ++ [(j, true, ag)], b.1 = q) ∨ PendAt P n ops w0 pb c' h' w' (a.put ops[j].dst x) q := fun x c' h' w' hx' q hq => by
        rw [hget] at hq
        by_cases h : q = j
        · exact .inl ⟨(j, true, ag), by simp, h.symm⟩
        · rw [if_neg h] at hq
          by_cases hex : ∃ b ∈ done', b.1 = q
          · obtain ⟨b', hb', he⟩ := hex
            exact .inl ⟨b', by simp [hb'], he⟩
          · have huq : unturned done' q := fun b hb he => hex ⟨b, hb, he⟩
            refine .inr (((hd'.dc q hq).resolve_left hex).mono hx' fun o t ho hot => ?_)
            rw [hput, if_neg]
            intro he
            obtain ⟨bp, hbp, hbpe, hpa⟩ := hpendR q hq huq o ho
            rcases List.mem_cons.1 hbp with h1 | h1
            · exact h (by rw [← hbpe, h1])
            · obtain ⟨oa, ob, h2, h3, hr⟩ := rOk_spec ((List.pairwise_cons.1 hpwd.2.1).1 bp h1)
              have h2' : (LL P n ops)[j]? = some oa := h2
              rw [hLi] at h2'; cases h2'
              rw [hbpe, ho] at h3; cases h3
              rcases hot with hot | hot
              · exact hr.dst t (by rw [hdst]; exact he) hot
              · have := hr.ab t (by rw [hdst]; exact he) hot
                rw [hbpe] at this
                have h4 : listed.getD j false = true := hpa _ this
                rw [h4] at hl; cases hl
      have hpinj : ∀ p q, (listed.setIfInBounds j true).getD p false = true → (listed.setIfInBounds j true).getD q false = true → unturned (done' ++ [(j, true, ag)]) p → unturned (done' ++ [(j, true, ag)]) q → pb p = pb q → p = q := by
        intro p q hp hq hup huq he
        have hpi : p ≠ j := fun h => hup (j, true, ag) (by simp) h.symm
        have hqi : q ≠ j := fun h => huq (j, true, ag) (by simp) h.symm
        rw [hget, if_neg hpi] at hp
        rw [hget, if_neg hqi] at hq
        exact hd'.pinj p q hp hq (fun b hb => hup b (by simp [hb])) (fun b hb => huq b (by simp [hb])) he
      have fin : ∀ (v : SV) (x : Value) (e1 : Env) (c' : Cx) (h' : Heap) (w' : World), EqE e' e1 → Rep c' h' w' → Ext c h w c' h' w' → VR c' h' w' v x → aopsD P Γ (LL P n ops) r (putE e1 (cOper P n ops true ops[j]).dst v) h' k kp →
          (∀ b' ∈ done', (listed.setIfInBounds j true).getD b'.1 false = false → ∀ o', (LL P n ops)[b'.1]? = some o' → PredV P Γ o' (putE e1 (cOper P n ops true ops[j]).dst v) h → PredV P Γ o' (putE e1 (cOper P n ops true ops[j]).dst v) h') →
          wpAny P .any ops Q fuel (listed.setIfInBounds j true) (a.put ops[j].dst x) w' := by
        intro v x e1 c' h' w' hE1 hr' hx' hvx hc hpd
        have hget1 : ∀ t, (cOper P n ops true ops[j]).dst ≠ some t → Env.get (putE e1 (cOper P n ops true ops[j]).dst v) t = Env.get e' t := fun t ht => by rw [(putE_get e1 _ v t).2 ht, ← hE1]
        refine ih (done' ++ [(j, true, ag)]) r _ pb c' h' w' _ _ hTl' hu' ⟨by rw [hd'.split]; simp, hr', hd'.ext.trans hr0 hx', by rw [put_size]; exact hd'.size, by rw [put_defers]; exact hd'.defers, hls, hc, hdc x c' h' w' hx', hpinj, fun b' hb' hs => ?_, hclosed, fun t ht htp => ?_, fun b' hb' hl' o' ho' => ?_⟩
        · rcases List.mem_append.1 hb' with h | h
          · exact hmono _ (hd'.sd b' h hs)
          · simp only [List.mem_singleton] at h; subst h
            rw [hget, if_pos rfl]
        · rw [hput]
          by_cases hdt : ops[j].dst = some t
          · rw [if_pos hdt, (putE_get e1 _ v t).1 (by rw [hdst]; exact hdt)]; exact hvx
          · rw [if_neg hdt, hget1 t (by rw [hdst]; exact hdt)]
            refine (hd'.T t (fun b' hb' hl' o' ho' => ht b' (by simp [hb']) ?_ o' ho') fun p hp hup => htp p (hmono p hp) fun b' hb' => ?_).mono hd'.rep hx'
            rotate_left
            · rcases List.mem_append.1 hb' with h | h
              · exact hup b' h
              · simp only [List.mem_singleton] at h; subst h
                intro he
                have he' : j = p := he
                rw [← he', hl] at hp; cases hp
            rw [hget, if_neg (fun e => ?_)]
            · exact hl'
            · obtain ⟨ob, _, hr⟩ := hR b' hb'
              exact hr.ne e
        · rcases List.mem_append.1 hb' with h | h
          · obtain ⟨hl2, hne⟩ := hun _ hl'
            obtain ⟨ob, hob, hr⟩ := hR b' h
            rw [ho'] at hob; cases hob
            refine hpd b' h hl' o' ho' ((hd'.Pd b' h hl2 o' ho').congr (fun t ht => (hget1 t fun hdd => ?_).symm) fun t ht => (hget1 t fun hdd => hr.dst t ht hdd).symm)
            have := (hr.ba t hdd ht).2
            rw [hanc _ this] at hl2; cases hl2
          · simp only [List.mem_singleton] at h; subst h
            rw [hget, if_pos rfl] at hl'; cases hl'
      rcases guardK_inv hcont with ⟨hw, e1, hE1, hp⟩ | ⟨hw, e1, hE1, hp⟩
      · rw [aopR_congr (fun t _ => (hE1 t).symm)] at hp
        refine exec_op hΓ (b := true) (Array.getElem?_eq_getElem hlt) hE.good hd'.rep hT hd'.size hw (fun _ => hp) (fun _ v x h' c' w' hk hr' hx' hvx => ?_) (fun _ v x h' c' w' hk hr' hx' hvx => hKP v x h' c' a w' hk hr' (hd'.ext.trans hr0 hx') hd'.size hd'.defers hvx) (fun hf => by cases hf)
        rw [putD_eq] at hk
        obtain ⟨hc, hag⟩ := againK_inv hΓ (fun q hq oi hoi => hE.ag q hq oi hoi) hk
        refine fin v x e1 c' h' w' hE1 hr' hx' hvx hc fun b' hb' hl' o' ho' hold => ?_
        obtain ⟨hl2, hne⟩ := hun _ hl'
        obtain ⟨ob, hob, hr⟩ := hR b' hb'
        rw [ho'] at hob; cases hob
        have hns : b'.2.1 = false := by
          cases hs : b'.2.1 with
          | false => rfl
          | true => rw [hd'.sd b' hb' hs] at hl2; cases hl2
        rcases hr.rd hns rfl with h1 | h1 | h1
        · rw [hanc _ h1] at hl2; cases hl2
        · exact hold.heap h1
        · obtain ⟨v', q1, q2⟩ := hold
          rcases q2 with ⟨q2, _⟩ | q2
          · obtain ⟨ob2, hob2, hE2⟩ := eOk_spec (hF.ent b' (by rw [hd'.split]; simp [hb']))
            rw [ho'] at hob2; cases hob2
            exact hag _ h1 o' ho' (hE2.cls hns) q2
          · exact ⟨v', q1, .inr q2⟩
      · rw [putD_eq] at hp
        refine exec_op hΓ (b := false) (Array.getElem?_eq_getElem hlt) hE.good hd'.rep hT hd'.size hw (k := fun _ _ => False) (kp := fun _ _ => False) (fun hf => by cases hf) (fun hf => by cases hf) (fun hf => by cases hf) (fun _ => ?_)
        exact fin (.tup []) undef e1 c h w hE1 hd'.rep .refl (.pure (.tup _ _ rfl fun i v x hv => by simp at hv)) hp fun _ _ _ _ _ hold => hold

theorem store_ends {m : Nat} {h : Heap} {p v : SV} {K : Heap → Prop} (hp : storeP m h p v K) : ∃ h', K h' := by
  unfold storeP at hp
  obtain ⟨hu, hp⟩ := cellsK_iff.1 hp
  replace hp := asr_iff.1 hp
  obtain ⟨_, hp⟩ := hp
  obtain ⟨nx, l⟩ := h
  split at hp
  · simp only [lookO_eq] at hp
    split at hp
    · split at hp
      · replace hp := asr_iff.1 hp
        obtain ⟨_, hp⟩ := hp
        rw [getL_eq] at hp
        split at hp
        · obtain ⟨w1, hp, _, _⟩ := storeV_inv hp hu
          obtain ⟨_, hp⟩ := setL_iff.1 hp
          rw [setO_eq] at hp
          exact ⟨_, hp⟩
        · exact hp.elim
      · exact hp.elim
    · exact hp.elim
  · exact hp.elim
theorem op_ends {o : AOp} (hc : o.cls ≤ 1 ∨ o.isStore = true) {e : Env} {h : Heap} {K kp : SV → Heap → Prop} (hp : aop P Γ o e h K kp) : ∃ v h', K v h' := by
  rcases hc with hc | hc
  · obtain ⟨v, hv, _⟩ := aop_det1 hc hp
    exact ⟨v, h, hv⟩
  · cases o with
    | store m x v =>
      simp only [aop, evK_eq] at hp
      obtain ⟨h', hk⟩ := store_ends hp
      exact ⟨_, h', hk⟩
    | _ => cases hc
theorem oneK_ends {o : AOper} (hc : o.op.cls ≤ 1 ∨ o.op.isStore = true) {e : Env} {h : Heap} {K : Env → Heap → Prop} (hp : oneK P Γ o e h K) : ∃ e' h', K e' h' := by
  unfold oneK at hp
  rcases guardK_inv hp with ⟨_, e1, _, hp⟩ | ⟨_, e1, _, hp⟩
  · obtain ⟨v, h', hk⟩ := op_ends hc hp
    rw [putD_eq] at hk
    exact ⟨_, _, hk⟩
  · rw [putD_eq] at hp
    exact ⟨_, _, hp⟩
theorem seqT_ends {L : List AOper} : ∀ {T : List Nat}, (∀ i ∈ T, ∀ o, L[i]? = some o → o.op.cls ≤ 1 ∨ o.op.isStore = true) → ∀ {e : Env} {h : Heap} {K : Env → Heap → Prop}, seqT P Γ L T e h K → ∃ e' h', K e' h'
  | [], _, e, h, K, hp => ⟨e, h, hp⟩
  | i :: r, hT, e, h, K, hp => by
    unfold seqT at hp
    rw [getL_eq] at hp
    split at hp
    · exact hp.elim
    · rename_i o ho
      obtain ⟨e', h', hp⟩ := oneK_ends (hT i (by simp) o ho) hp
      exact seqT_ends (fun j hj => hT j (by simp [hj])) hp
theorem eachC_rest {f : Nat → Prop → Prop} {p : Prop} : ∀ {l : List Nat}, (∀ i ∈ l, ∀ q, f i q → q) → eachC l f p → p
  | [], _, h => h
  | i :: r, hf, h => eachC_rest (fun j hj => hf j (by simp [hj])) (hf i (by simp) _ h)
theorem eachC_mem {f : Nat → Prop → Prop} {p : Prop} : ∀ {l : List Nat}, (∀ i ∈ l, ∀ q, f i q → q) → eachC l f p → ∀ i ∈ l, ∃ q, f i q
  | i :: r, hf, h, j, hj => by
    rcases List.mem_cons.1 hj with rfl | hj
    · exact ⟨_, h⟩
    · exact eachC_mem (fun j hj => hf j (by simp [hj])) (hf i (by simp) _ h) j hj
theorem mem_remN {i : Nat} : ∀ {l : List Nat} {j : Nat}, j ∈ remN l i ↔ j ∈ l ∧ j ≠ i
  | [], j => by simp [remN]
  | x :: r, j => by
    unfold remN
    rcases beq_cases x i with ⟨h, h'⟩ | ⟨h, h'⟩ <;> rw [h]
    · subst h'
      simp only [cond_true, mem_remN, List.mem_cons]
      constructor
      · rintro ⟨a, b⟩; exact ⟨.inr a, b⟩
      · rintro ⟨a | a, b⟩
        · exact absurd a b
        · exact ⟨a, b⟩
    · simp only [cond_false, List.mem_cons, mem_remN]
      constructor
      · rintro (rfl | ⟨a, b⟩)
        · exact ⟨.inl rfl, h'⟩
        · exact ⟨.inr a, b⟩
      · rintro ⟨rfl | a, b⟩
        · exact .inl rfl
        · exact .inr ⟨a, b⟩
theorem memB_mem : ∀ {l : List Nat} {i : Nat}, memB l i = true → i ∈ l
  | [], i, h => by cases h
  | x :: r, i, h => by
    unfold memB at h
    rcases beq_cases x i with ⟨hb, h'⟩ | ⟨hb, h'⟩ <;> rw [hb] at h
    · simp [h']
    · exact List.mem_cons_of_mem _ (memB_mem h)
theorem freeOf_of {rem : List Nat} : ∀ {pre : List Nat}, (∀ k ∈ pre, k ∉ rem) → freeOf pre rem = true
  | [], _ => rfl
  | k :: r, h => by
    unfold freeOf
    have hk : memB rem k = false := by
      cases hb : memB rem k with
      | false => rfl
      | true => exact absurd (memB_mem hb) (h k (by simp))
    rw [hk, freeOf_of fun j hj => h j (by simp [hj])]
    rfl
theorem allC_rest {L : List AOper} {chk : Env → Heap → Bool} : ∀ (m : Nat) {rem : List Nat}, (∀ i ∈ rem, ∀ o, L[i]? = some o → o.op.cls ≤ 1 ∨ o.op.isStore = true) → ∀ {e : Env} {h : Heap} {p : Prop}, allC P Γ L chk m rem e h p → p
  | 0, [], _, e, h, p, hp => (asr_iff.1 (show asr (chk e h) p from hp)).2
  | 0, x :: r, _, e, h, p, hp => (show False from hp).elim
  | m+1, [], _, e, h, p, hp => (asr_iff.1 (show asr (chk e h) p from hp)).2
  | m+1, x :: r, hT, e, h, p, hp => by
    rw [allC_succ] at hp
    refine eachC_rest (fun i hi q hq => ?_) hp
    rw [getL_eq] at hq
    split at hq
    · exact hq.elim
    · rename_i o ho
      rcases brE hq with ⟨_, hq⟩ | ⟨_, hq⟩
      · obtain ⟨e', h', hq⟩ := oneK_ends (hT i hi o ho) hq
        exact allC_rest m (fun j hj => hT j (mem_remN.1 hj).1) hq
      · exact hq
theorem tail_wp (hΓ : Γ.Ok P) (hF : OrdF (LL P n ops) ms ord TT) (hr0 : Rep c0 h0 w0) {chk : Env → Heap → Bool} {p : Prop}
    (hK : ∀ e h c a w, chk e h = true → Rep c h w → Ext c0 h0 w0 c h w → ER c h w e a.tmps → a.tmps.size = n → a.defers = ds → Q .normal a w) :
    ∀ (fuel m : Nat) (rem : List Nat) (p : Prop) (listed : Array Bool) (e : Env) (h : Heap) (c : Cx) (a : Act) (w : World), unl ops.size listed ≤ fuel → listed.size = ops.size → (∀ i ∈ rem, i ∈ TT) → (∀ i, i < ops.size → (listed.getD i false = false ↔ i ∈ rem)) →
      allC P Γ (LL P n ops) chk m rem e h p → Rep c h w → Ext c0 h0 w0 c h w → ER c h w e a.tmps → a.tmps.size = n → a.defers = ds → wpAny P .any ops Q fuel listed a w := by
  have hcl : ∀ rem : List Nat, (∀ i ∈ rem, i ∈ TT) → ∀ i ∈ rem, ∀ o, (LL P n ops)[i]? = some o → o.op.cls ≤ 1 ∨ o.op.isStore = true := fun rem hrem i hi o ho => by
    obtain ⟨o', ho', _, hc, _⟩ := hF.tail i (hrem i hi)
    rw [ho] at ho'; cases ho'; exact hc
  have hTlt : ∀ i ∈ TT, i < ops.size := fun i hi => by
    obtain ⟨o', ho', _⟩ := hF.tail i hi
    rcases Nat.lt_or_ge i (LL P n ops).length with h | h
    · rw [LL_len] at h; exact h
    · rw [List.getElem?_eq_none h] at ho'; cases ho'
  have hnil : ∀ (m : Nat) (rem : List Nat) (p : Prop) (listed : Array Bool) (e : Env) (h : Heap) (c : Cx) (a : Act) (w : World), (∀ i, i < ops.size → listed.getD i false = true) → (∀ i ∈ rem, i ∈ TT) → (∀ i, i < ops.size → (listed.getD i false = false ↔ i ∈ rem)) →
      allC P Γ (LL P n ops) chk m rem e h p → Rep c h w → Ext c0 h0 w0 c h w → ER c h w e a.tmps → a.tmps.size = n → a.defers = ds → Q .normal a w := by
    intro m rem p listed e h c a w hall hrT hrem hp hr hx he hn hds
    have hre : rem = [] := by
      cases rem with
      | nil => rfl
      | cons x r =>
        have h1 := hTlt x (hrT x (by simp))
        have h2 := (hrem x h1).2 (by simp)
        rw [hall x h1] at h2; cases h2
    subst hre
    have hp : asr (chk e h) p := by cases m <;> exact hp
    exact hK e h c a w (asr_iff.1 hp).1 hr hx he hn hds
  intro fuel
  induction fuel with
  | zero =>
    intro m rem p listed e h c a w hu hls hrT hrem hp hr hx he hn hds
    have hall := unl_zero (Nat.le_zero.1 hu)
    refine ⟨List.eq_nil_iff_forall_not_mem.2 fun i hi => ?_, hnil m rem p listed e h c a w hall hrT hrem hp hr hx he hn hds⟩
    obtain ⟨hlt, hl, _⟩ := ready_spec hls hi
    rw [hall i hlt] at hl; cases hl
  | succ fuel ih =>
    intro m rem p listed e h c a w hu hls hrT hrem hp hr hx he hn hds
    refine ⟨fun hrdy => hnil m rem p listed e h c a w (fun i hi => all_listed hF hls hrdy (i + 1) i (Nat.lt_succ_self _) hi) hrT hrem hp hr hx he hn hds, fun i hi => ?_⟩
    obtain ⟨hlt, hl, hpre⟩ := ready_spec hls hi
    have hir : i ∈ rem := (hrem i hlt).1 hl
    have hLi := LL_get (P := P) (n := n) hlt
    obtain ⟨o, ho, hg, _, _⟩ := hF.tail i (hrT i hir)
    rw [hLi] at ho
    cases ho
    obtain ⟨hdst, hop, hdlt, hpr, _⟩ := cOper_ok hg
    have hfree : freeOf (cOper P n ops true ops[i]).pre rem = true := freeOf_of fun k hk hkr => by
      rw [hpr] at hk
      obtain ⟨ed, hed, hbb⟩ := List.mem_filterMap.1 hk
      cases hbd : bindsAny ed
      · rw [hbd] at hbb; cases hbb
      · rw [hbd] at hbb
        simp only [cond_true, Option.some.injEq] at hbb
        have h1 := hpre ed hed hbd
        rw [hbb] at h1
        have h2 := (hrem k (hTlt k (hrT k hkr))).2 hkr
        rw [h1] at h2; cases h2
    cases rem with
    | nil => cases hir
    | cons x0 r0 =>
    cases m with
    | zero => exact (show False from hp).elim
    | succ m =>
      rw [allC_succ] at hp
      obtain ⟨q, hq⟩ := eachC_mem (fun j hj q hq => by
        rw [getL_eq] at hq
        split at hq
        · exact hq.elim
        · rename_i o ho
          rcases brE hq with ⟨_, hq⟩ | ⟨_, hq⟩
          · obtain ⟨e', h', hq⟩ := oneK_ends (hcl _ hrT j hj o ho) hq
            exact allC_rest m (fun j' hj' => hcl _ hrT j' (mem_remN.1 hj').1) hq
          · exact hq) hp i hir
      rw [getL_eq, hLi] at hq
      dsimp only at hq
      rw [hfree] at hq
      replace hq : oneK P Γ (cOper P n ops true ops[i]) e h fun e' h' => allC P Γ (LL P n ops) chk m (remN (x0 :: r0) i) e' h' q := hq
      have hil : i < listed.size := by rw [hls]; exact hlt
      have hu' : unl ops.size (listed.setIfInBounds i true) ≤ fuel := by
        have := unl_set hlt hil hl
        omega
      have hrem' : ∀ j, j < ops.size → ((listed.setIfInBounds i true).getD j false = false ↔ j ∈ remN (x0 :: r0) i) := fun j hj => by
        rw [listed_set listed i j hil, mem_remN]
        by_cases e : j = i
        · rw [if_pos e]; simp [e]
        · rw [if_neg e, hrem j hj]; simp [e]
      have hrT' : ∀ j ∈ remN (x0 :: r0) i, j ∈ TT := fun j hj => hrT j (mem_remN.1 hj).1
      have fin : ∀ (v : SV) (x : Value) (e1 : Env) (c' : Cx) (h' : Heap) (w' : World), EqE e e1 → Rep c' h' w' → Ext c h w c' h' w' → VR c' h' w' v x → allC P Γ (LL P n ops) chk m (remN (x0 :: r0) i) (putE e1 (cOper P n ops true ops[i]).dst v) h' q →
          wpAny P .any ops Q fuel (listed.setIfInBounds i true) (a.put ops[i].dst x) w' := by
        intro v x e1 c' h' w' hE1 hr' hx' hvx hc
        have he1 : ER c' h' w' e1 a.tmps := fun t => by rw [← hE1]; exact (he t).mono hr hx'
        refine ih m _ q _ _ h' c' _ w' hu' (by simp [hls]) hrT' hrem' hc hr' (hx.trans hr0 hx') ?_ (by rw [put_size]; exact hn) (by rw [put_defers]; exact hds)
        rw [hdst]
        exact he1.put (fun t ht => by rw [hn]; exact hdlt t ht) hvx
      unfold oneK at hq
      rcases guardK_inv hq with ⟨hw, e1, hE1, hq⟩ | ⟨hw, e1, hE1, hq⟩
      · rw [aopR_congr (fun t _ => (hE1 t).symm)] at hq
        refine exec_op hΓ (b := true) (Array.getElem?_eq_getElem hlt) hg hr (fun t _ => he t) hn hw (fun _ => hq) (fun _ v x h' c' w' hk hr' hx' hvx => ?_) (fun _ v x h' c' w' hk => hk.elim) (fun hf => by cases hf)
        rw [putD_eq] at hk
        exact fin v x e1 c' h' w' hE1 hr' hx' hvx hk
      · rw [putD_eq] at hq
        refine exec_op hΓ (b := false) (Array.getElem?_eq_getElem hlt) hg hr (fun t _ => he t) hn hw (k := fun _ _ => False) (kp := fun _ _ => False) (fun hf => by cases hf) (fun hf => by cases hf) (fun hf => by cases hf) (fun _ => ?_)
        exact fin (.tup []) undef e1 c h w hE1 hr .refl (.pure (.tup _ _ rfl fun i v x hv => by simp at hv)) hq
theorem aopsD_append {L : List AOper} {t : List Ent} {k : Env → Heap → Prop} {kp : SV → Env → Heap → Prop} : ∀ (p : List Ent), (∀ b ∈ p, memB b.2.2 b.1 = false) → ∀ (e : Env) (h : Heap), aopsD P Γ L (p ++ t) e h k kp = aopsD P Γ L p e h (fun e h => aopsD P Γ L t e h k kp) kp
  | [], _, e, h => rfl
  | (i, b, ag) :: r, hp, e, h => by
    have ih := aopsD_append (L := L) (t := t) (k := k) (kp := kp) r (fun b hb => hp b (by simp [hb]))
    have hu := hp (i, b, ag) (by simp)
    rw [List.cons_append, aopsD_cons _ _ _ _ _ _ _ _ _ _ _ hu, aopsD_cons _ _ _ _ _ _ _ _ _ _ _ hu]
    simp only [ih]

/-- A region that draws its order. -/
theorem dregion_wp (hΓ : Γ.Ok P) {id : Nat} (hm : P.follows .mixedOrders = true) (hok : ordOk (LL P n ops) ord = true) {c : Cx} {h : Heap} {w : World} {e : Env} {a : Act} (hp : aopsD P Γ (LL P n ops) ord e h k kp) (hr : Rep c h w) (he : ER c h w e a.tmps) (hn : a.tmps.size = n)
    (hK : ∀ e' h' c' a' w', k e' h' → Rep c' h' w' → Ext c h w c' h' w' → ER c' h' w' e' a'.tmps → a'.tmps.size = n → a'.defers = a.defers → Q .normal a' w')
    (hKP : ∀ v x h' c' a' w', kp v [] h' → Rep c' h' w' → Ext c h w c' h' w' → a'.tmps.size = n → a'.defers = a.defers → VR c' h' w' v x → Q (.panic [{ v := x, recovered := false }]) a' w') :
    (Code.region id ops true).wp P Q a w := by
  refine wp_region_any hm ?_
  have hx : Ext c h w c h { w with drawn := w.drawn + 1 } := ⟨rfl, rfl, rfl, Nat.le_refl _, fun _ _ _ => rfl, fun _ _ => rfl, fun _ h => h, fun _ h => .inl h, Nat.le_refl _, fun _ o' _ h => ⟨o', h, Nat.le_refl _, rfl, fun _ => rfl⟩, fun _ o' h => .inr ⟨o', h, rfl⟩⟩
  have hr' : Rep c h { w with drawn := w.drawn + 1 } := ⟨hr.lt, fun i o ho => (hr.obj i o ho).mono hr hx rfl, hr.inj, hr.apart, hr.im, hr.globx hx⟩
  have hfalse : ∀ i, (Array.replicate ops.size false).getD i false = false := fun i => by
    rw [Array.getD_eq_getD_getElem?, Array.getElem?_replicate]
    split <;> rfl
  have hF := ordOk_spec hok
  obtain ⟨hspl, hun, htl⟩ := splitT_eq ord
  rw [hspl, aopsD_append _ hun] at hp
  refine dmain hΓ (c0 := c) (h0 := h) (w0 := w) (ds := a.defers) hF (fun fuel listed e' h' c' a' w' hu hls hall hTl hk hr' hx he' hn' hd' => ?_) hKP hr ops.size [] (splitT ord).1 _ (fun _ => 0) c h _ e a (fun i _ => hfalse i) ?_ ⟨rfl, hr', hx, hn, rfl, by simp, hp, fun i hi => ?_, fun i j hi => ?_, fun b hb => (by cases hb), fun i hi => ?_, fun t _ _ => (he t).mono hr hx, fun b hb => (by cases hb)⟩
  · rcases htl with htl | ⟨b, r, htl, hmk⟩
    · rw [htl] at hk
      have hall' : ∀ i, i < ops.size → listed.getD i false = true := fun i hi => hall i hi (by rw [htl]; simp)
      have hq : Q .normal a' w' := hK e' h' c' a' w' hk hr' hx he' hn' hd'
      cases fuel with
      | zero =>
        refine ⟨List.eq_nil_iff_forall_not_mem.2 fun i hi => ?_, hq⟩
        obtain ⟨hlt, hl, _⟩ := ready_spec hls hi
        rw [hall' i hlt] at hl; cases hl
      | succ fuel =>
        refine ⟨fun _ => hq, fun i hi => ?_⟩
        obtain ⟨hlt, hl, _⟩ := ready_spec hls hi
        rw [hall' i hlt] at hl; cases hl
    · obtain ⟨j, bb, ag⟩ := b
      rw [htl, aopsD_mark _ _ _ _ _ _ _ _ _ _ _ hmk] at hk
      unfold tailK at hk
      have hTT : (splitT ord).2.map (fun y => y.1) = j :: r.map fun y => y.1 := by rw [htl]; rfl
      rw [← hTT] at hk
      obtain ⟨e1, h1, hk⟩ := seqT_ends (fun i hi o ho => by
        obtain ⟨o', ho', _, hc, _⟩ := hF.tail i hi
        rw [ho] at ho'; cases ho'; exact hc) hk
      have hkk : k e1 h1 := allC_rest _ (fun i hi o ho => by
        obtain ⟨o', ho', _, hc, _⟩ := hF.tail i hi
        rw [ho] at ho'; cases ho'; exact hc) hk
      refine tail_wp hΓ hF hr (ds := a.defers) (p := k e1 h1) (fun e2 h2 c2 a2 w2 hst hr2 hx2 he2 hn2 hd2 => ?_) fuel _ _ _ listed e' h' c' a' w' hu hls (fun _ h => h) (fun i hi => ⟨fun hl => ?_, fun hT => hTl i hT⟩) hk hr' hx he' hn' hd'
      · unfold stB at hst
        simp only [Bool.and_eq_true] at hst
        obtain ⟨h3, h4, h5⟩ := hst
        have hs : HLe h1 h2 := ⟨(Nat.eq_of_beq_eq_true h4).symm, fun i o ho => eqH_at h5 i o ho⟩
        refine hK e1 h1 c2 a2 w2 hkk (hr2.hle hs) (hx2.trans hr (Ext.hle hs)) (fun t => ?_) hn2 hd2
        rcases envB_get h3 t with hg | hg
        · rw [hg]; exact .undef
        · exact (hg.vr (he2 t)).hle hs
      · by_cases hT : i ∈ (splitT ord).2.map fun y => y.1
        · exact hT
        · rw [hall i hi hT] at hl; cases hl
  · unfold unl
    exact Nat.le_trans (List.length_filter_le _ _) (by simp)
  · rw [hfalse] at hi; cases hi
  · rw [hfalse] at hi; cases hi
  · rw [hfalse] at hi; cases hi
end
end Ab
namespace Ab
set_option linter.unusedVariables false
set_option linter.unusedSimpArgs false
open Go

theorem guard_cases {n : Nat} {ops : Array Oper} {pre : Bool} {P : Program} {o : Oper} {c : Cx} {h : Heap} {w : World} {e : Env} {a : Act} {run skip : Env → Prop} (he : ER c h w e a.tmps) (hn : a.tmps.size = n)
    (hp : guardK e (cOper P n ops pre o).guard run skip) (hrun : ∀ e, ER c h w e a.tmps → run e → Region.wanted o (yielded ops a.tmps) = true → (∀ d, o.dst = some d → d < n) → (cOper P n ops pre o).dst = o.dst → (cOper P n ops pre o).op = cOp P o.op → False)
    (hskip : ∀ e, ER c h w e a.tmps → skip e → Region.wanted o (yielded ops a.tmps) = false → (∀ d, o.dst = some d → d < n) → (cOper P n ops pre o).dst = o.dst → False)
    (hbad : run e → (cOper P n ops pre o).op = .bad → False) : False := by
  unfold cOper at hp hrun hskip hbad
  dsimp only at hp hrun hskip hbad
  cases hd : dstOk n o
  · rw [hd] at hp hbad
    simp only [cond_false, guardK] at hp hbad
    exact hbad hp (by first | rfl | trivial)
  · have hlt : ∀ d, o.dst = some d → d < n := fun d hdd => by
      unfold dstOk at hd
      rw [hdd] at hd
      exact Nat.lt_of_succ_le (by simpa [Nat.blt] using hd)
    rw [hd] at hp hrun hskip hbad
    simp only [cond_true] at hp hrun hskip hbad
    cases hg : o.guard with
    | none =>
      rw [hg] at hp hrun
      simp only [guardK] at hp
      exact hrun e he hp (by simp [Region.wanted, hg]) hlt (by first | rfl | trivial) (by first | rfl | trivial)
    | some gw =>
      obtain ⟨j, want⟩ := gw
      rw [hg] at hp hrun hskip hbad
      dsimp only at hp hrun hskip hbad
      cases ht : (ops[j]?).bind (·.dst) with
      | none =>
        rw [ht] at hp hbad
        simp only [guardK] at hp hbad
        exact hbad hp (by first | rfl | trivial)
      | some t =>
        rw [ht] at hp hrun hskip hbad
        dsimp only at hp hrun hskip hbad
        cases hb : Nat.blt t n
        · rw [hb] at hp hbad
          simp only [cond_false, guardK] at hp hbad
          exact hbad hp (by first | rfl | trivial)
        · have htn : t < n := by
            exact Nat.lt_of_succ_le (by simpa [Nat.blt] using hb)
          rw [hb] at hp hrun hskip hbad
          simp only [cond_true, guardK, getK_eq] at hp hrun hskip
          have hv := he t
          have hget : a.tmps[t]? = some (a.tmps.getD t undef) := by
            rw [Array.getD_eq_getD_getElem?]
            have : t < a.tmps.size := by rw [hn]; exact htn
            simp [this]
          split at hp
          · rename_i x hx
            rw [hx] at hv
            have hv := hv.bool_inv
            have hy : yielded ops a.tmps j = some x := by
              unfold yielded
              rw [ht, Option.bind_some, hget, hv]
            have hput : ∀ b, b = x → ER c h w (Env.put e t (.bool b)) a.tmps := by
              rintro b rfl u
              rw [get_put]
              by_cases hu : u = t
              · subst hu; rw [if_pos rfl, hv]; exact .bool
              · rw [if_neg hu]; exact he u
            have hw : Region.wanted o (yielded ops a.tmps) = (x == want) := by
              simp [Region.wanted, hg, hy]
            cases x <;> cases want <;> simp only [putK_eq] at hp
            · exact hrun _ (hput _ rfl) hp (by rw [hw]; rfl) hlt (by first | rfl | trivial) (by first | rfl | trivial)
            · exact hskip _ (hput _ rfl) hp (by rw [hw]; rfl) hlt (by first | rfl | trivial)
            · exact hskip _ (hput _ rfl) hp (by rw [hw]; rfl) hlt (by first | rfl | trivial)
            · exact hrun _ (hput _ rfl) hp (by rw [hw]; rfl) hlt (by first | rfl | trivial) (by first | rfl | trivial)
          · rename_i l hx
            rw [hx] at hv
            obtain ⟨cs, hcs, _⟩ := hv.tup_inv
            have hy : yielded ops a.tmps j = none := by
              unfold yielded
              rw [ht, Option.bind_some, hget, hcs]
            exact hskip _ he hp (by simp [Region.wanted, hg, hy]) hlt (by first | rfl | trivial)
          · exact hp.elim

/-- One operation of a region, guard and all. -/
theorem oper_wp {P : Program} {Γ : CallR} (hΓ : Γ.Ok P) {n : Nat} {ops : Array Oper} {pre : Bool} {Q : Exit → Act → World → Prop} {i : Nat} {o : Oper} (hi : ops[i]? = some o) {c : Cx} {h : Heap} {w : World} {e : Env} {a : Act} {K : Act → World → Prop}
    (hr : Rep c h w) (he : ER c h w e a.tmps) (hn : a.tmps.size = n) {k : Env → Heap → Prop} {kp : SV → Env → Heap → Prop}
    (hp : guardK e (cOper P n ops pre o).guard
      (fun e => aop P Γ (cOper P n ops pre o).op e h (fun v h' => putD e (cOper P n ops pre o).dst v fun e' => k e' h') (fun v h' => kp v e h'))
      (fun e => putD e (cOper P n ops pre o).dst (.tup []) fun e' => k e' h))
    (hk : ∀ e' h' c' a' w', k e' h' → Rep c' h' w' → Ext c h w c' h' w' → ER c' h' w' e' a'.tmps → a'.tmps.size = n → a'.defers = a.defers → K a' w')
    (hkp : ∀ v x e' h' c' w', kp v e' h' → Rep c' h' w' → Ext c h w c' h' w' → ER c' h' w' e' a.tmps → VR c' h' w' v x → Q (.panic [{ v := x, recovered := false }]) a w') :
    wpOp P ops Q i K a w := by
  refine Classical.byContradiction fun hneg => guard_cases he hn hp (fun e he hp hw hlt hdst hop => hneg ?_) (fun e he hp hw hlt hdst => hneg ?_) (fun hp hb => by rw [hb] at hp; exact hp)
  · unfold wpOp
    rw [hi]
    dsimp only
    rw [if_pos hw]
    rw [hop, hdst] at hp
    refine .inl (op_wp hΓ hr he hp (fun v x h' c' w' hkk hr' hx hv => ?_) (fun v x h' c' w' hkk hr' hx hv => hkp v x e h' c' w' hkk hr' hx (he.mono hr hx) hv))
    rw [putD_eq] at hkk
    exact hk _ h' c' _ w' hkk hr' hx ((he.mono hr hx).put (fun t ht => by rw [hn]; exact hlt t ht) hv) (by rw [put_size]; exact hn) (put_defers _ _ _)
  · unfold wpOp
    rw [hi]
    dsimp only
    rw [if_neg (by rw [hw]; decide)]
    rw [hdst, putD_eq] at hp
    exact hk _ h c _ w hp hr .refl (he.put (fun t ht => by rw [hn]; exact hlt t ht) (.pure (.tup _ _ rfl fun i v x hv => by simp at hv))) (by rw [put_size]; exact hn) (put_defers _ _ _)

theorem aops_sound {P : Program} {Γ : CallR} (hΓ : Γ.Ok P) {n : Nat} {ops : Array Oper} {Q : Exit → Act → World → Prop} {k : Env → Heap → Prop} {kp : SV → Env → Heap → Prop} :
    ∀ (m j : Nat) (c : Cx) (h : Heap) (w : World) (e : Env) (a : Act), j + m = ops.size → aops P Γ ((ops.toList.drop j).map (cOper P n ops false)) e h k kp → Rep c h w → ER c h w e a.tmps → a.tmps.size = n →
    (∀ e' h' c' a' w', k e' h' → Rep c' h' w' → Ext c h w c' h' w' → ER c' h' w' e' a'.tmps → a'.tmps.size = n → a'.defers = a.defers → Q .normal a' w') →
    (∀ v x e' h' c' a' w', kp v e' h' → Rep c' h' w' → Ext c h w c' h' w' → ER c' h' w' e' a'.tmps → a'.tmps.size = n → a'.defers = a.defers → VR c' h' w' v x → Q (.panic [{ v := x, recovered := false }]) a' w') →
    wpOps P ops Q (List.range' j m) a w
  | 0, j, c, h, w, e, a, hj, hp, hr, he, hn, hk, hkp => by
    have : ops.toList.drop j = [] := List.drop_eq_nil_iff.2 (by simp; omega)
    rw [this] at hp
    exact hk e h c a w hp hr .refl he hn rfl
  | m+1, j, c, h, w, e, a, hj, hp, hr, he, hn, hk, hkp => by
    have hlt : j < ops.size := by omega
    have hd : ops.toList.drop j = ops[j] :: ops.toList.drop (j + 1) := by
      rw [List.drop_eq_getElem_cons (by simpa using hlt)]
      simp
    rw [hd, List.map_cons] at hp
    rw [List.range'_succ, wpOps_cons]
    refine oper_wp hΓ (k := fun e' h' => aops P Γ ((ops.toList.drop (j + 1)).map (cOper P n ops false)) e' h' k kp) (kp := kp) (Array.getElem?_eq_getElem hlt) hr he hn hp (fun e' h' c' a' w' hkk hr' hx he' hn' hdf => ?_) (fun v x e' h' c' w' hkk hr' hx he' hv => hkp v x e' h' c' a w' hkk hr' hx he' hn rfl hv)
    refine aops_sound hΓ m (j + 1) c' h' w' e' a' (by omega) hkk hr' he' hn' (fun e2 h2 c2 a2 w2 hk2 hr2 hx2 he2 hn2 hdf2 => ?_) (fun v x e2 h2 c2 a2 w2 hk2 hr2 hx2 he2 hn2 hdf2 hv => ?_)
    · exact hk e2 h2 c2 a2 w2 hk2 hr2 (hx.trans hr hx2) he2 hn2 (hdf2.trans hdf)
    · exact hkp v x e2 h2 c2 a2 w2 hk2 hr2 (hx.trans hr hx2) he2 hn2 (hdf2.trans hdf) hv

/-! ## Code -/
def erase : ACode → ACode
  | .skip => .skip
  | .region ops _ => .region ops []
  | .dregion ops _ _ => .dregion ops [] []
  | .seq a b => .seq (erase a) (erase b)
  | .cond c a b => .cond c (erase a) (erase b)
  | .block id b => .block id (erase b)
  | .loop b => .loop (erase b)
  | .exit id => .exit id
  | .ret => .ret
  | .bad => .bad

def ExR (c : Cx) (h : Heap) (w : World) : Exit → AExit → Prop
  | .normal, .normal => True
  | .exit i, .exit j => i = j
  | .ret, .ret => True
  | .panic ch, .panic v => ∃ x, ch = [{ v := x, recovered := false }] ∧ VR c h w v x
  | _, _ => False

def Post (c : Cx) (h : Heap) (w : World) (Q : AExit → Env → Heap → Prop) (n : Nat) (ds : List Deferred) (ex : Exit) (a' : Act) (w' : World) : Prop :=
  ∃ c' h' e' x, Q x e' h' ∧ Rep c' h' w' ∧ Ext c h w c' h' w' ∧ ER c' h' w' e' a'.tmps ∧ a'.tmps.size = n ∧ a'.defers = ds ∧ ExR c' h' w' ex x

/-- What the code does, from symbolic memory on. -/
def AWP (P : Program) (n : Nat) (code : Code) (Q : AExit → Env → Heap → Prop) (e : Env) (h : Heap) : Prop :=
  ∀ (c : Cx) (w : World) (a : Act), Rep c h w → ER c h w e a.tmps → a.tmps.size = n → code.wp P (Post c h w Q n a.defers) a w

/-- The orders that the code tells are the regions' own. -/
def ordsOk : ACode → Bool
  | .dregion ops ord _ => ordOk ops ord
  | .seq a b | .cond _ a b => ordsOk a && ordsOk b
  | .block _ b | .loop b => ordsOk b
  | _ => true

structure ALoop (P : Program) (b : ACode) (Q : AExit → Env → Heap → Prop) (e : Env) (h : Heap) : Prop where
  run : ∀ n code, P.follows .mixedOrders = true → ordsOk b = true → erase b = cCode P n code → AWP P n (.loop code) Q e h

def seqQ (k : Env → Heap → Prop) (Q : AExit → Env → Heap → Prop) : AExit → Env → Heap → Prop
  | .normal, e, h => k e h
  | x, e, h => Q x e h
def blockQ (id : Nat) (Q : AExit → Env → Heap → Prop) : AExit → Env → Heap → Prop
  | .exit j, e, h => @Bool.rec (fun _ => Prop) (Q (.exit j) e h) (Q .normal e h) (Nat.beq j id)
  | x, e, h => Q x e h
def condK (c : AOpd) (e : Env) (h : Heap) (a b : Env → Heap → Prop) : Prop := match c with
    | .tmp t => Env.getK e t fun c => match c with
      | .bool x => @Bool.rec (fun _ => Prop) (Env.putK e t (.bool false) fun e => b e h) (Env.putK e t (.bool true) fun e => a e h) x
      | _ => False
    | .const c => match c with
      | .bool x => @Bool.rec (fun _ => Prop) (b e h) (a e h) x
      | _ => False
abbrev LoopR := ACode → (AExit → Env → Heap → Prop) → Env → Heap → Prop
def awpC (P : Program) (Γ : CallR) (Λ : LoopR) (code : ACode) : (AExit → Env → Heap → Prop) → Env → Heap → Prop :=
  @ACode.rec (fun _ => (AExit → Env → Heap → Prop) → Env → Heap → Prop)
    (fun Q e h => Q .normal e h)
    (fun ops fg Q e h => aops P Γ ops e h (fun e' h' => Env.dropsK fg e' fun e'' => Q .normal e'' h') (fun v e' h' => Q (.panic v) e' h'))
    (fun ops ord fg Q e h => aopsD P Γ ops ord e h (fun e' h' => Env.dropsK fg e' fun e'' => Q .normal e'' h') (fun v e' h' => Q (.panic v) e' h'))
    (fun _ _ a b Q e h => a (seqQ (b Q) Q) e h)
    (fun c _ _ a b Q e h => condK c e h (a Q) (b Q))
    (fun id _ b Q e h => b (blockQ id Q) e h)
    (fun b _ Q e h => Λ b Q e h)
    (fun id Q e h => Q (.exit id) e h)
    (fun Q e h => Q .ret e h)
    (fun _ _ _ => False) code
def awp (P : Program) (code : ACode) : (AExit → Env → Heap → Prop) → Env → Heap → Prop := awpC P (aCall P) (ALoop P) code

section
variable {P : Program} {Γ : CallR} {n : Nat}

theorem Post.of {c : Cx} {h : Heap} {w : World} {Q : AExit → Env → Heap → Prop} {ds : List Deferred} {ex : Exit} {a' : Act} {w' : World} {c1 : Cx} {h1 : Heap} {w1 : World} (hr : Rep c h w) (hx : Ext c h w c1 h1 w1)
    (hp : Post c1 h1 w1 Q n ds ex a' w') : Post c h w Q n ds ex a' w' := by
  obtain ⟨c', h', e', x, hq, hr', hx', he', hn', hd', hex⟩ := hp
  exact ⟨c', h', e', x, hq, hr', hx.trans hr hx', he', hn', hd', hex⟩

theorem awpC_sound {Λ : LoopR} (hΓ : Γ.Ok P) (hΛ : ∀ b Q e h, Λ b Q e h → ALoop P b Q e h) (hm : P.follows .mixedOrders = true) : ∀ (code : Code) (ac : ACode) (Q : AExit → Env → Heap → Prop) (e : Env) (h : Heap), ordsOk ac = true → erase ac = cCode P n code → awpC P Γ Λ ac Q e h → AWP P n code Q e h
  | .skip, ac, Q, e, h, ho, hc, hp => by
    cases ac <;> simp only [erase, cCode] at hc <;> try cases hc
    intro c w a hr he hn
    exact wp_skip ⟨c, h, e, .normal, hp, hr, .refl, he, hn, rfl, trivial⟩
  | .region id ops false, ac, Q, e, h, ho, hc, hp => by
    simp only [cCode, cond_false] at hc
    cases ac <;> simp only [erase] at hc <;> try cases hc
    intro c w a hr he hn
    refine wp_region ?_
    rw [List.range_eq_range']
    refine aops_sound hΓ ops.size 0 c h w e a (by simp) (by rw [List.drop_zero]; exact hp) hr he hn (fun e' h' c' a' w' hk hr' hx he' hn' hd' => ?_) (fun v x e' h' c' a' w' hk hr' hx he' hn' hd' hv => ?_)
    · rw [dropsK_eq] at hk
      exact ⟨c', h', _, .normal, hk, hr', hx, he'.drops _, hn', hd', trivial⟩
    · exact ⟨c', h', e', .panic v, hk, hr', hx, he', hn', hd', x, rfl, hv⟩
  | .region id ops true, ac, Q, e, h, ho, hc, hp => by
    simp only [cCode, cond_true] at hc
    cases ac <;> simp only [erase] at hc <;> try cases hc
    intro c w a hr he hn
    refine dregion_wp hΓ hm ho hp hr he hn (fun e' h' c' a' w' hk hr' hx he' hn' hd' => ?_) (fun v x h' c' a' w' hk hr' hx hn' hd' hv => ?_)
    · rw [dropsK_eq] at hk
      exact ⟨c', h', _, .normal, hk, hr', hx, he'.drops _, hn', hd', trivial⟩
    · exact ⟨c', h', [], .panic v, hk, hr', hx, fun t => .undef, hn', hd', x, rfl, hv⟩
  | .seq x y, ac, Q, e, h, ho, hc, hp => by
    cases ac <;> simp only [erase, cCode, ACode.seq.injEq, reduceCtorEq] at hc
    rename_i ax ay
    simp only [ordsOk, Bool.and_eq_true] at ho
    intro c w a hr he hn
    refine wp_seq (wp_mono (awpC_sound hΓ hΛ hm x ax _ e h ho.1 hc.1 hp c w a hr he hn) fun ex a' w' hpost => ?_)
    obtain ⟨c', h', e', xx, hq, hr', hx', he', hn', hd', hex⟩ := hpost
    cases ex with
    | normal =>
      cases xx <;> try exact hex.elim
      simp only [Exit.then]
      have := awpC_sound hΓ hΛ hm y ay Q e' h' ho.2 hc.2 hq c' w' a' hr' he' hn'
      rw [hd'] at this
      exact wp_mono this fun _ _ _ hp2 => hp2.of hr hx'
    | exit i => cases xx <;> first | exact hex.elim | exact ⟨c', h', e', _, hq, hr', hx', he', hn', hd', hex⟩
    | goto l => cases xx <;> exact hex.elim
    | ret => cases xx <;> first | exact hex.elim | exact ⟨c', h', e', _, hq, hr', hx', he', hn', hd', hex⟩
    | panic ch => cases xx <;> first | exact hex.elim | exact ⟨c', h', e', _, hq, hr', hx', he', hn', hd', hex⟩
    | outgrown => cases xx <;> exact hex.elim
  | .cond cc x y, ac, Q, e, h, ho, hc, hp => by
    cases ac <;> simp only [erase, cCode, ACode.cond.injEq, reduceCtorEq] at hc
    rename_i ac ax ay
    obtain ⟨hcc, hcx, hcy⟩ := hc
    simp only [ordsOk, Bool.and_eq_true] at ho
    intro c w a hr he hn
    have hv := he.ev cc
    rw [← hcc] at hv
    cases ac with
    | tmp t =>
      replace hp : condK (.tmp t) e h (awpC P Γ Λ ax Q) (awpC P Γ Λ ay Q) := hp
      simp only [condK, getK_eq] at hp
      have hev : (AOpd.tmp t).ev e = Env.get e t := rfl
      rw [hev] at hv
      split at hp
      · rename_i b hb
        rw [hb] at hv
        have hvb := hv.bool_inv
        refine wp_cond hvb ?_
        have hput : ∀ b', b' = b → ER c h w (Env.put e t (.bool b')) a.tmps := by
          rintro b' rfl u
          rw [get_put]
          by_cases hu : u = t
          · subst hu
            rw [if_pos rfl]
            have := he u
            rw [hb] at this
            exact this
          · rw [if_neg hu]; exact he u
        cases b <;> simp only [putK_eq] at hp
        · exact awpC_sound hΓ hΛ hm y ay Q _ h ho.2 hcy hp c w a hr (hput _ rfl) hn
        · exact awpC_sound hΓ hΛ hm x ax Q _ h ho.1 hcx hp c w a hr (hput _ rfl) hn
      · exact hp.elim
    | const v =>
      replace hp : condK (.const v) e h (awpC P Γ Λ ax Q) (awpC P Γ Λ ay Q) := hp
      simp only [condK] at hp
      have hev : (AOpd.const v).ev e = v := rfl
      rw [hev] at hv
      split at hp
      · have hvb := hv.bool_inv
        refine wp_cond hvb ?_
        rename_i b
        cases b
        · exact awpC_sound hΓ hΛ hm y ay Q _ h ho.2 hcy hp c w a hr he hn
        · exact awpC_sound hΓ hΛ hm x ax Q _ h ho.1 hcx hp c w a hr he hn
      · exact hp.elim
  | .block id b, ac, Q, e, h, ho, hc, hp => by
    cases ac <;> simp only [erase, cCode, ACode.block.injEq, reduceCtorEq] at hc
    rename_i aid ab
    obtain ⟨rfl, hc⟩ := hc
    intro c w a hr he hn
    refine wp_block (wp_mono (awpC_sound hΓ hΛ hm b ab _ e h ho hc hp c w a hr he hn) fun ex a' w' hpost => ?_)
    obtain ⟨c', h', e', xx, hq, hr', hx', he', hn', hd', hex⟩ := hpost
    cases ex with
    | normal => cases xx <;> first | exact hex.elim | exact ⟨c', h', e', _, hq, hr', hx', he', hn', hd', hex⟩
    | exit i =>
      cases xx <;> try exact hex.elim
      rename_i j
      have hij : i = j := hex
      subst hij
      simp only [Exit.inBlock]
      rcases beq_cases i aid with ⟨hb, hb'⟩ | ⟨hb, hb'⟩
      · rw [if_pos hb']
        simp only [blockQ, hb] at hq
        exact ⟨c', h', e', .normal, hq, hr', hx', he', hn', hd', trivial⟩
      · rw [if_neg hb']
        simp only [blockQ, hb] at hq
        exact ⟨c', h', e', .exit i, hq, hr', hx', he', hn', hd', rfl⟩
    | goto l => cases xx <;> exact hex.elim
    | ret => cases xx <;> first | exact hex.elim | exact ⟨c', h', e', _, hq, hr', hx', he', hn', hd', hex⟩
    | panic ch => cases xx <;> first | exact hex.elim | exact ⟨c', h', e', _, hq, hr', hx', he', hn', hd', hex⟩
    | outgrown => cases xx <;> exact hex.elim
  | .loop b, ac, Q, e, h, ho, hc, hp => by
    cases ac <;> simp only [erase, cCode, ACode.loop.injEq, reduceCtorEq] at hc
    exact (hΛ _ _ _ _ hp).run n b hm ho hc
  | .exit id, ac, Q, e, h, ho, hc, hp => by
    cases ac <;> simp only [erase, cCode, ACode.exit.injEq, reduceCtorEq] at hc
    subst hc
    intro c w a hr he hn
    exact wp_exit ⟨c, h, e, .exit _, hp, hr, .refl, he, hn, rfl, rfl⟩
  | .ret, ac, Q, e, h, ho, hc, hp => by
    cases ac <;> simp only [erase, cCode, reduceCtorEq] at hc
    intro c w a hr he hn
    exact wp_ret ⟨c, h, e, .ret, hp, hr, .refl, he, hn, rfl, trivial⟩
  | .rangeFunc _ _ _ _, ac, Q, e, h, ho, hc, hp => by
    cases ac <;> simp only [erase, cCode, reduceCtorEq] at hc
    exact hp.elim
  | .scope _, ac, Q, e, h, ho, hc, hp => by
    cases ac <;> simp only [erase, cCode, reduceCtorEq] at hc
    exact hp.elim
  | .label _, ac, Q, e, h, ho, hc, hp => by
    cases ac <;> simp only [erase, cCode, reduceCtorEq] at hc
    exact hp.elim
  | .goto _, ac, Q, e, h, ho, hc, hp => by
    cases ac <;> simp only [erase, cCode, reduceCtorEq] at hc
    exact hp.elim
  | .refuse _, ac, Q, e, h, ho, hc, hp => by
    cases ac <;> simp only [erase, cCode, reduceCtorEq] at hc
    exact hp.elim

theorem awp_sound (hm : P.follows .mixedOrders = true) (code : Code) (ac : ACode) (Q : AExit → Env → Heap → Prop) (e : Env) (h : Heap) (ho : ordsOk ac = true) (hc : erase ac = cCode P n code) (hp : awp P ac Q e h) : AWP P n code Q e h :=
  awpC_sound (Γ := aCall P) (Λ := ALoop P) aCall_ok (fun _ _ _ _ h => h) hm code ac Q e h ho hc hp
end
end Ab
