/- Parts of the proof of PLexCalls, one behind the other. -/
import Derived.Test.YtlhpbcbkkbjhoaaGreatDoorM6
import Derived.LoopN
import Derived.ProofKit
import Derived.OpenShut
import Derived.Carry
namespace Ab
set_option linter.unusedVariables false
set_option linter.unusedSimpArgs false
open Go

theorem guard_cases {n : Nat} {ops : Array Oper} {pre : Bool} {P : Program} {o : Oper} {c : Cx} {h : Heap} {w : World} {e : Env} {a : Act} {run skip : Env → Prop} (he : ER c h w e a.tmps) (hn : a.tmps.size = n)
    (hp : guardK e (cOper P n ops pre o).guard run skip) (hrun : ∀ e, ER c h w e a.tmps → run e → Region.wanted o (yielded ops a.tmps) = true → (∀ d, o.dst = some d → d < n) → (cOper P n ops pre o).dst = o.dst → (cOper P n ops pre o).op = cOp P o.op → False)
    (hskip : ∀ e, ER c h w e a.tmps → skip e → Region.wanted o (yielded ops a.tmps) = false → (∀ d, o.dst = some d → d < n) → (cOper P n ops pre o).dst = o.dst → False)
    (hbad : run e → (cOper P n ops pre o).op = .bad → False) : False := by
  unfold cOper at hp hrun hskip hbad
  dsimp only at hp hrun hskip hbad
  cases hd : dstOk n o
  · rw [hd] at hp hbad
    simp only [cond_false, guardK] at hp hbad
    exact hbad hp (by first | rfl | trivial)
  · have hlt : ∀ d, o.dst = some d → d < n := fun d hdd => by
      unfold dstOk at hd
      rw [hdd] at hd
      exact Nat.lt_of_succ_le (by simpa [Nat.blt] using hd)
    rw [hd] at hp hrun hskip hbad
    simp only [cond_true] at hp hrun hskip hbad
    cases hg : o.guard with
    | none =>
      rw [hg] at hp hrun
      simp only [guardK] at hp
      exact hrun e he hp (by simp [Region.wanted, hg]) hlt (by first | rfl | trivial) (by first | rfl | trivial)
    | some gw =>
      obtain ⟨j, want⟩ := gw
      rw [hg] at hp hrun hskip hbad
      dsimp only at hp hrun hskip hbad
      cases ht : (ops[j]?).bind (·.dst) with
      | none =>
        rw [ht] at hp hbad
        simp only [guardK] at hp hbad
        exact hbad hp (by first | rfl | trivial)
      | some t =>
        rw [ht] at hp hrun hskip hbad
        dsimp only at hp hrun hskip hbad
        cases hb : Nat.blt t n
        · rw [hb] at hp hbad
          simp only [cond_false, guardK] at hp hbad
          exact hbad hp (by first | rfl | trivial)
        · have htn : t < n := by
            exact Nat.lt_of_succ_le (by simpa [Nat.blt] using hb)
          rw [hb] at hp hrun hskip hbad
          simp only [cond_true, guardK, getK_eq] at hp hrun hskip
          have hv := he t
          have hget : a.tmps[t]? = some (a.tmps.getD t undef) := by
            rw [Array.getD_eq_getD_getElem?]
            have : t < a.tmps.size := by rw [hn]; exact htn
            simp [this]
          split at hp
          · rename_i x hx
            rw [hx] at hv
            have hv := hv.bool_inv
            have hy : yielded ops a.tmps j = some x := by
              unfold yielded
              rw [ht, Option.bind_some, hget, hv]
            have hput : ∀ b, b = x → ER c h w (Env.put e t (.bool b)) a.tmps := by
              rintro b rfl u
              rw [get_put]
              by_cases hu : u = t
              · subst hu; rw [if_pos rfl, hv]; exact .bool
              · rw [if_neg hu]; exact he u
            have hw : Region.wanted o (yielded ops a.tmps) = (x == want) := by
              simp [Region.wanted, hg, hy]
            cases x <;> cases want <;> simp only [putK_eq] at hp
            · exact hrun _ (hput _ rfl) hp (by rw [hw]; rfl) hlt (by first | rfl | trivial) (by first | rfl | trivial)
            · exact hskip _ (hput _ rfl) hp (by rw [hw]; rfl) hlt (by first | rfl | trivial)
            · exact hskip _ (hput _ rfl) hp (by rw [hw]; rfl) hlt (by first | rfl | trivial)
            · exact hrun _ (hput _ rfl) hp (by rw [hw]; rfl) hlt (by first | rfl | trivial) (by first | rfl | trivial)
          · rename_i l hx
            rw [hx] at hv
            obtain ⟨cs, hcs, _⟩ := hv.tup_inv
            have hy : yielded ops a.tmps j = none := by
              unfold yielded
              rw [ht, Option.bind_some, hget, hcs]
            exact hskip _ he hp (by simp [Region.wanted, hg, hy]) hlt (by first | rfl | trivial)
          · exact hp.elim

/-- One operation of a region, guard and all. -/
theorem oper_wp {P : Program} {Γ : CallR} (hΓ : Γ.Ok P) {n : Nat} {ops : Array Oper} {pre : Bool} {Q : Exit → Act → World → Prop} {i : Nat} {o : Oper} (hi : ops[i]? = some o) {c : Cx} {h : Heap} {w : World} {e : Env} {a : Act} {K : Act → World → Prop}
    (hr : Rep c h w) (he : ER c h w e a.tmps) (hn : a.tmps.size = n) {k : Env → Heap → Prop} {kp : SV → Env → Heap → Prop}
    (hp : guardK e (cOper P n ops pre o).guard
      (fun e => aop P Γ (cOper P n ops pre o).op e h (fun v h' => putD e (cOper P n ops pre o).dst v fun e' => k e' h') (fun v h' => kp v e h'))
      (fun e => putD e (cOper P n ops pre o).dst (.tup []) fun e' => k e' h))
    (hk : ∀ e' h' c' a' w', k e' h' → Rep c' h' w' → Ext c h w c' h' w' → ER c' h' w' e' a'.tmps → a'.tmps.size = n → a'.defers = a.defers → K a' w')
    (hkp : ∀ v x e' h' c' w', kp v e' h' → Rep c' h' w' → Ext c h w c' h' w' → ER c' h' w' e' a.tmps → VR c' h' w' v x → Q (.panic [{ v := x, recovered := false }]) a w') :
    wpOp P ops Q i K a w := by
  refine Classical.byContradiction fun hneg => guard_cases he hn hp (fun e he hp hw hlt hdst hop => hneg ?_) (fun e he hp hw hlt hdst => hneg ?_) (fun hp hb => by rw [hb] at hp; exact hp)
  · unfold wpOp
    rw [hi]
    dsimp only
    rw [if_pos hw]
    rw [hop, hdst] at hp
    refine .inl (op_wp hΓ hr he hp (fun v x h' c' w' hkk hr' hx hv => ?_) (fun v x h' c' w' hkk hr' hx hv => hkp v x e h' c' w' hkk hr' hx (he.mono hr hx) hv))
    rw [putD_eq] at hkk
    exact hk _ h' c' _ w' hkk hr' hx ((he.mono hr hx).put (fun t ht => by rw [hn]; exact hlt t ht) hv) (by rw [put_size]; exact hn) (put_defers _ _ _)
  · unfold wpOp
    rw [hi]
    dsimp only
    rw [if_neg (by rw [hw]; decide)]
    rw [hdst, putD_eq] at hp
    exact hk _ h c _ w hp hr .refl (he.put (fun t ht => by rw [hn]; exact hlt t ht) (.pure (.tup _ _ rfl fun i v x hv => by simp at hv))) (by rw [put_size]; exact hn) (put_defers _ _ _)

theorem aops_sound {P : Program} {Γ : CallR} (hΓ : Γ.Ok P) {n : Nat} {ops : Array Oper} {Q : Exit → Act → World → Prop} {k : Env → Heap → Prop} {kp : SV → Env → Heap → Prop} :
    ∀ (m j : Nat) (c : Cx) (h : Heap) (w : World) (e : Env) (a : Act), j + m = ops.size → aops P Γ ((ops.toList.drop j).map (cOper P n ops false)) e h k kp → Rep c h w → ER c h w e a.tmps → a.tmps.size = n →
    (∀ e' h' c' a' w', k e' h' → Rep c' h' w' → Ext c h w c' h' w' → ER c' h' w' e' a'.tmps → a'.tmps.size = n → a'.defers = a.defers → Q .normal a' w') →
    (∀ v x e' h' c' a' w', kp v e' h' → Rep c' h' w' → Ext c h w c' h' w' → ER c' h' w' e' a'.tmps → a'.tmps.size = n → a'.defers = a.defers → VR c' h' w' v x → Q (.panic [{ v := x, recovered := false }]) a' w') →
    wpOps P ops Q (List.range' j m) a w
  | 0, j, c, h, w, e, a, hj, hp, hr, he, hn, hk, hkp => by
    have : ops.toList.drop j = [] := List.drop_eq_nil_iff.2 (by simp; omega)
    rw [this] at hp
    exact hk e h c a w hp hr .refl he hn rfl
  | m+1, j, c, h, w, e, a, hj, hp, hr, he, hn, hk, hkp => by
    have hlt : j < ops.size := by omega
    have hd : ops.toList.drop j = ops[j] :: ops.toList.drop (j + 1) := by
      rw [List.drop_eq_getElem_cons (by simpa using hlt)]
      simp
    rw [hd, List.map_cons] at hp
    rw [List.range'_succ, wpOps_cons]
    refine oper_wp hΓ (k := fun e' h' => aops P Γ ((ops.toList.drop (j + 1)).map (cOper P n ops false)) e' h' k kp) (kp := kp) (Array.getElem?_eq_getElem hlt) hr he hn hp (fun e' h' c' a' w' hkk hr' hx he' hn' hdf => ?_) (fun v x e' h' c' w' hkk hr' hx he' hv => hkp v x e' h' c' a w' hkk hr' hx he' hn rfl hv)
    refine aops_sound hΓ m (j + 1) c' h' w' e' a' (by omega) hkk hr' he' hn' (fun e2 h2 c2 a2 w2 hk2 hr2 hx2 he2 hn2 hdf2 => ?_) (fun v x e2 h2 c2 a2 w2 hk2 hr2 hx2 he2 hn2 hdf2 hv => ?_)
    · exact hk e2 h2 c2 a2 w2 hk2 hr2 (hx.trans hr hx2) he2 hn2 (hdf2.trans hdf)
    · exact hkp v x e2 h2 c2 a2 w2 hk2 hr2 (hx.trans hr hx2) he2 hn2 (hdf2.trans hdf) hv

/-! ## Code -/
def erase : ACode → ACode
  | .skip => .skip
  | .region ops _ => .region ops []
  | .dregion ops _ _ => .dregion ops [] []
  | .seq a b => .seq (erase a) (erase b)
  | .cond c a b => .cond c (erase a) (erase b)
  | .block id b => .block id (erase b)
  | .loop b => .loop (erase b)
  | .exit id => .exit id
  | .ret => .ret
  | .bad => .bad

def ExR (c : Cx) (h : Heap) (w : World) : Exit → AExit → Prop
  | .normal, .normal => True
  | .exit i, .exit j => i = j
  | .ret, .ret => True
  | .panic ch, .panic v => ∃ x, ch = [{ v := x, recovered := false }] ∧ VR c h w v x
  | _, _ => False

def Post (c : Cx) (h : Heap) (w : World) (Q : AExit → Env → Heap → Prop) (n : Nat) (ds : List Deferred) (ex : Exit) (a' : Act) (w' : World) : Prop :=
  ∃ c' h' e' x, Q x e' h' ∧ Rep c' h' w' ∧ Ext c h w c' h' w' ∧ ER c' h' w' e' a'.tmps ∧ a'.tmps.size = n ∧ a'.defers = ds ∧ ExR c' h' w' ex x

/-- What the code does, from symbolic memory on. -/
def AWP (P : Program) (n : Nat) (code : Code) (Q : AExit → Env → Heap → Prop) (e : Env) (h : Heap) : Prop :=
  ∀ (c : Cx) (w : World) (a : Act), Rep c h w → ER c h w e a.tmps → a.tmps.size = n → code.wp P (Post c h w Q n a.defers) a w

/-- The orders that the code tells are the regions' own. -/
def ordsOk : ACode → Bool
  | .dregion ops ord _ => ordOk ops ord
  | .seq a b | .cond _ a b => ordsOk a && ordsOk b
  | .block _ b | .loop b => ordsOk b
  | _ => true

structure ALoop (P : Program) (b : ACode) (Q : AExit → Env → Heap → Prop) (e : Env) (h : Heap) : Prop where
  run : ∀ n code, P.follows .mixedOrders = true → ordsOk b = true → erase b = cCode P n code → AWP P n (.loop code) Q e h

def seqQ (k : Env → Heap → Prop) (Q : AExit → Env → Heap → Prop) : AExit → Env → Heap → Prop
  | .normal, e, h => k e h
  | x, e, h => Q x e h
def blockQ (id : Nat) (Q : AExit → Env → Heap → Prop) : AExit → Env → Heap → Prop
  | .exit j, e, h => @Bool.rec (fun _ => Prop) (Q (.exit j) e h) (Q .normal e h) (Nat.beq j id)
  | x, e, h => Q x e h
def condK (c : AOpd) (e : Env) (h : Heap) (a b : Env → Heap → Prop) : Prop := match c with
    | .tmp t => Env.getK e t fun c => match c with
      | .bool x => @Bool.rec (fun _ => Prop) (Env.putK e t (.bool false) fun e => b e h) (Env.putK e t (.bool true) fun e => a e h) x
      | _ => False
    | .const c => match c with
      | .bool x => @Bool.rec (fun _ => Prop) (b e h) (a e h) x
      | _ => False
abbrev LoopR := ACode → (AExit → Env → Heap → Prop) → Env → Heap → Prop
def awpC (P : Program) (Γ : CallR) (Λ : LoopR) (code : ACode) : (AExit → Env → Heap → Prop) → Env → Heap → Prop :=
  @ACode.rec (fun _ => (AExit → Env → Heap → Prop) → Env → Heap → Prop)
    (fun Q e h => Q .normal e h)
    (fun ops fg Q e h => aops P Γ ops e h (fun e' h' => Env.dropsK fg e' fun e'' => Q .normal e'' h') (fun v e' h' => Q (.panic v) e' h'))
    (fun ops ord fg Q e h => aopsD P Γ ops ord e h (fun e' h' => Env.dropsK fg e' fun e'' => Q .normal e'' h') (fun v e' h' => Q (.panic v) e' h'))
    (fun _ _ a b Q e h => a (seqQ (b Q) Q) e h)
    (fun c _ _ a b Q e h => condK c e h (a Q) (b Q))
    (fun id _ b Q e h => b (blockQ id Q) e h)
    (fun b _ Q e h => Λ b Q e h)
    (fun id Q e h => Q (.exit id) e h)
    (fun Q e h => Q .ret e h)
    (fun _ _ _ => False) code
def awp (P : Program) (code : ACode) : (AExit → Env → Heap → Prop) → Env → Heap → Prop := awpC P (aCall P) (ALoop P) code

section
variable {P : Program} {Γ : CallR} {n : Nat}

theorem Post.of {c : Cx} {h : Heap} {w : World} {Q : AExit → Env → Heap → Prop} {ds : List Deferred} {ex : Exit} {a' : Act} {w' : World} {c1 : Cx} {h1 : Heap} {w1 : World} (hr : Rep c h w) (hx : Ext c h w c1 h1 w1)
    (hp : Post c1 h1 w1 Q n ds ex a' w') : Post c h w Q n ds ex a' w' := by
  obtain ⟨c', h', e', x, hq, hr', hx', he', hn', hd', hex⟩ := hp
  exact ⟨c', h', e', x, hq, hr', hx.trans hr hx', he', hn', hd', hex⟩

theorem awpC_sound {Λ : LoopR} (hΓ : Γ.Ok P) (hΛ : ∀ b Q e h, Λ b Q e h → ALoop P b Q e h) (hm : P.follows .mixedOrders = true) : ∀ (code : Code) (ac : ACode) (Q : AExit → Env → Heap → Prop) (e : Env) (h : Heap), ordsOk ac = true → erase ac = cCode P n code → awpC P Γ Λ ac Q e h → AWP P n code Q e h
  | .skip, ac, Q, e, h, ho, hc, hp => by
    cases ac <;> simp only [erase, cCode] at hc <;> try cases hc
    intro c w a hr he hn
    exact wp_skip ⟨c, h, e, .normal, hp, hr, .refl, he, hn, rfl, trivial⟩
  | .region id ops false, ac, Q, e, h, ho, hc, hp => by
    simp only [cCode, cond_false] at hc
    cases ac <;> simp only [erase] at hc <;> try cases hc
    intro c w a hr he hn
    refine wp_region ?_
    rw [List.range_eq_range']
    refine aops_sound hΓ ops.size 0 c h w e a (by simp) (by rw [List.drop_zero]; exact hp) hr he hn (fun e' h' c' a' w' hk hr' hx he' hn' hd' => ?_) (fun v x e' h' c' a' w' hk hr' hx he' hn' hd' hv => ?_)
    · rw [dropsK_eq] at hk
      exact ⟨c', h', _, .normal, hk, hr', hx, he'.drops _, hn', hd', trivial⟩
    · exact ⟨c', h', e', .panic v, hk, hr', hx, he', hn', hd', x, rfl, hv⟩
  | .region id ops true, ac, Q, e, h, ho, hc, hp => by
    simp only [cCode, cond_true] at hc
    cases ac <;> simp only [erase] at hc <;> try cases hc
    intro c w a hr he hn
    refine dregion_wp hΓ hm ho hp hr he hn (fun e' h' c' a' w' hk hr' hx he' hn' hd' => ?_) (fun v x h' c' a' w' hk hr' hx hn' hd' hv => ?_)
    · rw [dropsK_eq] at hk
      exact ⟨c', h', _, .normal, hk, hr', hx, he'.drops _, hn', hd', trivial⟩
    · exact ⟨c', h', [], .panic v, hk, hr', hx, fun t => .undef, hn', hd', x, rfl, hv⟩
  | .seq x y, ac, Q, e, h, ho, hc, hp => by
    cases ac <;> simp only [erase, cCode, ACode.seq.injEq, reduceCtorEq] at hc
    rename_i ax ay
    simp only [ordsOk, Bool.and_eq_true] at ho
    intro c w a hr he hn
    refine wp_seq (wp_mono (awpC_sound hΓ hΛ hm x ax _ e h ho.1 hc.1 hp c w a hr he hn) fun ex a' w' hpost => ?_)
    obtain ⟨c', h', e', xx, hq, hr', hx', he', hn', hd', hex⟩ := hpost
    cases ex with
    | normal =>
      cases xx <;> try exact hex.elim
      simp only [Exit.then]
      have := awpC_sound hΓ hΛ hm y ay Q e' h' ho.2 hc.2 hq c' w' a' hr' he' hn'
      rw [hd'] at this
      exact wp_mono this fun _ _ _ hp2 => hp2.of hr hx'
    | exit i => cases xx <;> first | exact hex.elim | exact ⟨c', h', e', _, hq, hr', hx', he', hn', hd', hex⟩
    | goto l => cases xx <;> exact hex.elim
    | ret => cases xx <;> first | exact hex.elim | exact ⟨c', h', e', _, hq, hr', hx', he', hn', hd', hex⟩
    | panic ch => cases xx <;> first | exact hex.elim | exact ⟨c', h', e', _, hq, hr', hx', he', hn', hd', hex⟩
    | outgrown => cases xx <;> exact hex.elim
  | .cond cc x y, ac, Q, e, h, ho, hc, hp => by
    cases ac <;> simp only [erase, cCode, ACode.cond.injEq, reduceCtorEq] at hc
    rename_i ac ax ay
    obtain ⟨hcc, hcx, hcy⟩ := hc
    simp only [ordsOk, Bool.and_eq_true] at ho
    intro c w a hr he hn
    have hv := he.ev cc
    rw [← hcc] at hv
    cases ac with
    | tmp t =>
      replace hp : condK (.tmp t) e h (awpC P Γ Λ ax Q) (awpC P Γ Λ ay Q) := hp
      simp only [condK, getK_eq] at hp
      have hev : (AOpd.tmp t).ev e = Env.get e t := rfl
      rw [hev] at hv
      split at hp
      · rename_i b hb
        rw [hb] at hv
        have hvb := hv.bool_inv
        refine wp_cond hvb ?_
        have hput : ∀ b', b' = b → ER c h w (Env.put e t (.bool b')) a.tmps := by
          rintro b' rfl u
          rw [get_put]
          by_cases hu : u = t
          · subst hu
            rw [if_pos rfl]
            have := he u
            rw [hb] at this
            exact this
          · rw [if_neg hu]; exact he u
        cases b <;> simp only [putK_eq] at hp
        · exact awpC_sound hΓ hΛ hm y ay Q _ h ho.2 hcy hp c w a hr (hput _ rfl) hn
        · exact awpC_sound hΓ hΛ hm x ax Q _ h ho.1 hcx hp c w a hr (hput _ rfl) hn
      · exact hp.elim
    | const v =>
      replace hp : condK (.const v) e h (awpC P Γ Λ ax Q) (awpC P Γ Λ ay Q) := hp
      simp only [condK] at hp
      have hev : (AOpd.const v).ev e = v := rfl
      rw [hev] at hv
      split at hp
      · have hvb := hv.bool_inv
        refine wp_cond hvb ?_
        rename_i b
        cases b
        · exact awpC_sound hΓ hΛ hm y ay Q _ h ho.2 hcy hp c w a hr he hn
        · exact awpC_sound hΓ hΛ hm x ax Q _ h ho.1 hcx hp c w a hr he hn
      · exact hp.elim
  | .block id b, ac, Q, e, h, ho, hc, hp => by
    cases ac <;> simp only [erase, cCode, ACode.block.injEq, reduceCtorEq] at hc
    rename_i aid ab
    obtain ⟨rfl, hc⟩ := hc
    intro c w a hr he hn
    refine wp_block (wp_mono (awpC_sound hΓ hΛ hm b ab _ e h ho hc hp c w a hr he hn) fun ex a' w' hpost => ?_)
    obtain ⟨c', h', e', xx, hq, hr', hx', he', hn', hd', hex⟩ := hpost
    cases ex with
    | normal => cases xx <;> first | exact hex.elim | exact ⟨c', h', e', _, hq, hr', hx', he', hn', hd', hex⟩
    | exit i =>
      cases xx <;> try exact hex.elim
      rename_i j
      have hij : i = j := hex
      subst hij
      simp only [Exit.inBlock]
      rcases beq_cases i aid with ⟨hb, hb'⟩ | ⟨hb, hb'⟩
      · rw [if_pos hb']
        simp only [blockQ, hb] at hq
        exact ⟨c', h', e', .normal, hq, hr', hx', he', hn', hd', trivial⟩
      · rw [if_neg hb']
        simp only [blockQ, hb] at hq
        exact ⟨c', h', e', .exit i, hq, hr', hx', he', hn', hd', rfl⟩
    | goto l => cases xx <;> exact hex.elim
    | ret => cases xx <;> first | exact hex.elim | exact ⟨c', h', e', _, hq, hr', hx', he', hn', hd', hex⟩
    | panic ch => cases xx <;> first | exact hex.elim | exact ⟨c', h', e', _, hq, hr', hx', he', hn', hd', hex⟩
    | outgrown => cases xx <;> exact hex.elim
  | .loop b, ac, Q, e, h, ho, hc, hp => by
    cases ac <;> simp only [erase, cCode, ACode.loop.injEq, reduceCtorEq] at hc
    exact (hΛ _ _ _ _ hp).run n b hm ho hc
  | .exit id, ac, Q, e, h, ho, hc, hp => by
    cases ac <;> simp only [erase, cCode, ACode.exit.injEq, reduceCtorEq] at hc
    subst hc
    intro c w a hr he hn
    exact wp_exit ⟨c, h, e, .exit _, hp, hr, .refl, he, hn, rfl, rfl⟩
  | .ret, ac, Q, e, h, ho, hc, hp => by
    cases ac <;> simp only [erase, cCode, reduceCtorEq] at hc
    intro c w a hr he hn
    exact wp_ret ⟨c, h, e, .ret, hp, hr, .refl, he, hn, rfl, trivial⟩
  | .rangeFunc _ _ _ _, ac, Q, e, h, ho, hc, hp => by
    cases ac <;> simp only [erase, cCode, reduceCtorEq] at hc
    exact hp.elim
  | .scope _, ac, Q, e, h, ho, hc, hp => by
    cases ac <;> simp only [erase, cCode, reduceCtorEq] at hc
    exact hp.elim
  | .label _, ac, Q, e, h, ho, hc, hp => by
    cases ac <;> simp only [erase, cCode, reduceCtorEq] at hc
    exact hp.elim
  | .goto _, ac, Q, e, h, ho, hc, hp => by
    cases ac <;> simp only [erase, cCode, reduceCtorEq] at hc
    exact hp.elim
  | .refuse _, ac, Q, e, h, ho, hc, hp => by
    cases ac <;> simp only [erase, cCode, reduceCtorEq] at hc
    exact hp.elim

theorem awp_sound (hm : P.follows .mixedOrders = true) (code : Code) (ac : ACode) (Q : AExit → Env → Heap → Prop) (e : Env) (h : Heap) (ho : ordsOk ac = true) (hc : erase ac = cCode P n code) (hp : awp P ac Q e h) : AWP P n code Q e h :=
  awpC_sound (Γ := aCall P) (Λ := ALoop P) aCall_ok (fun _ _ _ _ h => h) hm code ac Q e h ho hc hp
end
end Ab
namespace Ab
set_option linter.unusedVariables false
set_option linter.unusedSimpArgs false
open Go

/-- Does a value speak of names below n alone? -/
def SV.lt : Nat → Nat → SV → Bool
  | 0, _, _ => false
  | f+1, n, v => match v with
    | .ref i _ _ _ => Nat.blt i n
    | .sl i _ _ _ _ _ => Nat.blt i n
    | .mapv i _ => Nat.blt i n
    | .agg l | .tup l => l.all (SV.lt f n)
    | .func _ a b => a.all (SV.lt f n) && b.all (SV.lt f n)
    | .iface _ v => SV.lt f n v
    | _ => true
def objLt (n : Nat) : AObj → Prop
  | .vec _ _ elems _ => ∀ v ∈ elems, SV.lt 8 n v = true
  | .iter _ _ => True
  | .map _ _ => True
  | .miter m _ _ _ => SV.lt 8 n m = true
  | .fro .. => True
noncomputable section
/-- The slots of these numbers alone. -/
def pickK : List Nat → Env → (Env → Prop) → Prop
  | [], _, k => k []
  | t :: ts, e, k => Env.getK e t fun v => pickK ts e fun e' => k ((t, v) :: e')
def allLtK (n : Nat) (l : List SV) (k : Prop) : Prop := @List.rec SV (fun _ => Prop) k (fun v _ ih => asr (SV.lt 8 n v) ih) l
def objLtK (n : Nat) (o : AObj) (k : Prop) : Prop := match o with
  | .vec _ _ elems _ => allLtK n elems k
  | .iter _ _ => k
  | .map _ _ => k
  | .miter m _ _ _ => asr (SV.lt 8 n m) k
  | .fro .. => k
def cutHK (n : Nat) (l : List (Nat × AObj)) : (List (Nat × AObj) → Prop) → Prop :=
  @List.rec (Nat × AObj) (fun _ => (List (Nat × AObj) → Prop) → Prop) (fun k => k [])
    (fun x _ ih k => match x with
      | (i, o) => @Bool.rec (fun _ => Prop) (ih k) (objLtK n o (ih fun r' => k ((i, o) :: r'))) (Nat.blt i n)) l
def ltE (n : Nat) : Env → Bool
  | [] => true
  | (_, v) :: r => SV.lt 8 n v && ltE n r
/-- Behind a round: the slots that stood at the loop's head, and the blocks that were there. -/
def cutK (ks : List Nat) (n : Nat) (e : Env) (h : Heap) (k : Env → Heap → Prop) : Prop := pickK ks e fun e' => match h with
  | ⟨m, l⟩ => @Bool.rec (fun _ => Prop) (asr (ltE n e' && Nat.ble n m) (cutHK n l fun l' => k e' ⟨n, l'⟩)) (k e' ⟨m, l⟩) (Nat.beq m n)
def backQ (ks : List Nat) (n : Nat) (Q : AExit → Env → Heap → Prop) (I : Env → Heap → Prop) : AExit → Env → Heap → Prop
  | .normal, e, h => cutK ks n e h I
  | x, e, h => Q x e h
def Env.keys : Env → List Nat
  | [] => []
  | (t, _) :: r => t :: Env.keys r
end

theorem VR.cut {c : Cx} {A A' : Heap} {w : World} (hsub : ∀ i o, A'.obj i = some o → A.obj i = some o) : ∀ (f : Nat) {v : SV} {x : Value}, SV.lt f A'.nxt v = true → VR c A w v x → VR c A' w v x := by
  intro f
  induction f with
  | zero => intro v x hl; cases hl
  | succ f ih =>
    intro v x hl hv
    have hnat : ∀ i, Nat.blt i A'.nxt = true → i < A'.nxt := fun i hi => Nat.lt_of_succ_le (by simpa [Nat.blt] using hi)
    cases hv with
    | pure h => exact .pure h
    | ref i g idx sub x hx hi hg h => exact .ref _ _ _ _ _ hx (hnat i hl) (fun o ho => hg o (hsub i o ho)) fun o ho => h o (hsub i o ho)
    | sl i g sz off len cap x hx hi hg h => exact .sl _ _ _ _ _ _ _ hx (hnat i hl) (fun o ho => hg o (hsub i o ho)) fun o ho => h o (hsub i o ho)
    | mapv i g x hx hi hg h => exact .mapv _ _ _ hx (hnat i hl) (fun o ho => hg o (hsub i o ho)) fun o ho => h o (hsub i o ho)
    | iface t v x h => exact .iface _ _ _ (ih hl h)
    | agg l cs hll h => exact .agg _ _ hll fun i v y h1 h2 => ih (List.all_eq_true.1 hl v (List.mem_of_getElem? h1)) (h i v y h1 h2)
    | tup l cs hll h => exact .tup _ _ hll fun i v y h1 h2 => ih (List.all_eq_true.1 hl v (List.mem_of_getElem? h1)) (h i v y h1 h2)
    | func fn a b a' b' ha hb h h' =>
      simp only [SV.lt, Bool.and_eq_true] at hl
      exact .func _ _ _ _ _ ha hb (fun i v y h1 h2 => ih (List.all_eq_true.1 hl.1 v (List.mem_of_getElem? h1)) (h i v y h1 h2)) fun i v y h1 h2 => ih (List.all_eq_true.1 hl.2 v (List.mem_of_getElem? h1)) (h' i v y h1 h2)

theorem allLtK_iff {n : Nat} {k : Prop} : ∀ {l : List SV}, allLtK n l k ↔ (∀ v ∈ l, SV.lt 8 n v = true) ∧ k
  | [] => by simp [allLtK]
  | v :: r => by
    have e : allLtK n (v :: r) k = asr (SV.lt 8 n v) (allLtK n r k) := rfl
    rw [e, asr_iff, allLtK_iff]
    simp [and_assoc]
theorem allLtK_of {n : Nat} {k : Prop} {l : List SV} (h : ∀ v ∈ l, SV.lt 8 n v = true) (hk : k) : allLtK n l k := allLtK_iff.2 ⟨h, hk⟩
theorem objLtK_inv {n : Nat} {o : AObj} {k : Prop} (h : objLtK n o k) : objLt n o ∧ k := by
  cases o with
  | vec g sz elems sk => exact allLtK_iff.1 h
  | iter s pos => exact ⟨trivial, h⟩
  | map es cl => exact ⟨trivial, h⟩
  | miter m since seen stepped => exact asr_iff.1 h
  | fro g ty xs => exact ⟨trivial, h⟩
theorem cutHK_inv {n : Nat} : ∀ {l : List (Nat × AObj)} {k : List (Nat × AObj) → Prop}, cutHK n l k → ∃ l', k l' ∧ (∀ i o, objL l' i = some o → objL l i = some o ∧ i < n ∧ objLt n o) ∧ True
  | [], k, hp => ⟨[], hp, (fun i o ho => by cases ho), trivial⟩
  | (i, o) :: r, k, hp => by
    replace hp : @Bool.rec (fun _ => Prop) (cutHK n r k) (objLtK n o (cutHK n r fun r' => k ((i, o) :: r'))) (Nat.blt i n) := hp
    rcases brE hp with ⟨hb, hp⟩ | ⟨hb, hp⟩
    · obtain ⟨ho, hp⟩ := objLtK_inv hp
      obtain ⟨l', hk, hl, _⟩ := cutHK_inv hp
      refine ⟨_, hk, fun j oj hj => ?_, trivial⟩
      unfold objL at hj ⊢
      by_cases hij : i = j
      · rw [if_pos hij] at hj ⊢
        cases hj
        exact ⟨rfl, by rw [← hij]; exact Nat.lt_of_succ_le (by simpa [Nat.blt] using hb), ho⟩
      · rw [if_neg hij] at hj ⊢
        exact hl j oj hj
    · obtain ⟨l', hk, hl, _⟩ := cutHK_inv hp
      refine ⟨l', hk, fun j oj hj => ?_, trivial⟩
      obtain ⟨h1, h2, h3⟩ := hl j oj hj
      refine ⟨?_, h2, h3⟩
      unfold objL
      rw [if_neg (fun hij => ?_)]
      · exact h1
      · subst hij
        have : Nat.blt i n = true := by
          have : i + 1 ≤ n := h2
          simpa [Nat.blt] using this
        rw [this] at hb; cases hb

theorem pickK_inv : ∀ {ks : List Nat} {e : Env} {k : Env → Prop}, pickK ks e k → ∃ e', k e' ∧ ∀ t, Env.get e' t = .undef ∨ Env.get e' t = Env.get e t
  | [], e, k, hp => ⟨[], hp, fun t => .inl rfl⟩
  | s :: ts, e, k, hp => by
    simp only [pickK, getK_eq] at hp
    obtain ⟨e', hk, he⟩ := pickK_inv hp
    refine ⟨_, hk, fun t => ?_⟩
    conv => lhs; lhs; unfold Env.get
    conv => rhs; lhs; unfold Env.get
    rcases beq_cases s t with ⟨h, h'⟩ | ⟨h, h'⟩ <;> rw [h]
    · subst h'; exact .inr rfl
    · exact he t

theorem ltE_get {n : Nat} : ∀ {e : Env}, ltE n e = true → ∀ t, SV.lt 8 n (Env.get e t) = true
  | [], _, t => rfl
  | (s, v) :: r, hl, t => by
    simp only [ltE, Bool.and_eq_true] at hl
    unfold Env.get
    rcases beq_cases s t with ⟨h, h'⟩ | ⟨h, h'⟩ <;> rw [h]
    · exact hl.1
    · exact ltE_get hl.2 t

/-- What stands behind a cut still reads so. -/
theorem cutK_inv {ks : List Nat} {n : Nat} {e : Env} {h : Heap} {k : Env → Heap → Prop} (hp : cutK ks n e h k) {c : Cx} {w : World} {tmps : Array Value} (hr : Rep c h w) (he : ER c h w e tmps) {c0 : Cx} {h0 : Heap} {w0 : World} (hx : Ext c0 h0 w0 c h w) (hn : h0.nxt ≤ n) :
    ∃ e' h', k e' h' ∧ Rep c h' w ∧ ER c h' w e' tmps ∧ Ext c0 h0 w0 c h' w := by
  unfold cutK at hp
  obtain ⟨e', hp, hee⟩ := pickK_inv hp
  obtain ⟨m, l⟩ := h
  have he' : ER c ⟨m, l⟩ w e' tmps := fun t => by
    rcases hee t with h | h
    · rw [h]; exact .undef
    · rw [h]; exact he t
  rcases brE hp with ⟨hb, hp⟩ | ⟨hb, hp⟩
  · exact ⟨e', _, hp, hr, he', hx⟩
  · replace hp := asr_iff.1 hp
    obtain ⟨hlt, hp⟩ := hp
    simp only [Bool.and_eq_true] at hlt
    obtain ⟨l', hk, hl, _⟩ := cutHK_inv hp
    have hsub : ∀ i o, (Heap.mk n l').obj i = some o → (Heap.mk m l).obj i = some o := fun i o ho => (hl i o ho).1
    refine ⟨e', _, hk, ⟨fun i o ho => (hl i o ho).2.1, fun i o ho => ?_, fun i j o p ho hp' heq => hr.inj i j o p (hsub i o ho) (hsub j p hp') heq, fun i o ho => hr.apart i o (hsub i o ho), hr.im, hr.glob⟩, fun t => (he' t).cut hsub 8 (ltE_get hlt.1 t), ?_⟩
    · have hor := hr.obj i o (hsub i o ho)
      have holt := (hl i o ho).2.2
      cases hor with
      | vec g sz elems slack C ty fz hw hle heq hty hc hf hcell =>
        refine .vec g sz elems slack C ty fz hw hle heq hty hc hf fun i j e v x h1 h2 h3 => ?_
        have hv := hcell i j e v x h1 h2 h3
        have hlte := holt e (List.mem_of_getElem? h1)
        by_cases hagg : ∃ l, e = .agg l
        · obtain ⟨l, rfl⟩ := hagg
          exact hv.cut hsub 7 (List.all_eq_true.1 hlte v (List.mem_of_getElem? h2))
        · have h1 : e.cells = [e] := by cases e <;> first | rfl | exact absurd ⟨_, rfl⟩ hagg
          rw [h1] at h2
          cases j with
          | zero => simp at h2; subst h2; exact hv.cut hsub 8 hlte
          | succ j => simp at h2
      | iter s pos hw => exact .iter s pos hw
      | map es cl hw hs => exact .map es cl hw hs
      | miter m since seen stepped r hw hm => exact .miter m since seen stepped r hw (hm.cut hsub 8 holt)
      | fro g ty xs C fz hw hle hc => exact .fro g ty xs C fz hw hle hc
    · refine ⟨hx.os, hx.tape, hx.output, hx.size, hx.frame, hx.shape, hx.im, hx.im', hn, fun i o' hi ho' => hx.old i o' hi (hsub i o' ho'), fun i o' ho' => hx.new i o' (hsub i o' ho')⟩

/-- A loop, by a number that falls. -/
theorem loop_ok {P : Program} {b : ACode} {Q : AExit → Env → Heap → Prop} (J : Nat → Env → Heap → Prop)
    (hJ : ∀ m e h, J m e h → awp P b (backQ (Env.keys e) h.nxt Q (fun e' h' => ∃ m', m' < m ∧ J m' e' h')) e h) {m : Nat} {e : Env} {h : Heap} (h0 : J m e h) : ALoop P b Q e h := by
  refine ⟨fun n code hmix hord hc c w a hr he hn => ?_⟩
  let I : Nat → Act → World → Prop := fun m' a' w' => ∃ c' e' h', J m' e' h' ∧ Rep c' h' w' ∧ Ext c h w c' h' w' ∧ ER c' h' w' e' a'.tmps ∧ a'.tmps.size = n ∧ a'.defers = a.defers
  have hleast : ∀ a' w', (∃ m', I m' a' w') → ∃ m', I m' a' w' ∧ ∀ m'', I m'' a' w' → m' ≤ m'' := by
    intro a' w' ⟨m', hm'⟩
    refine Classical.byContradiction fun hno => ?_
    have : ∀ k, ∀ m'', m'' ≤ k → ¬ I m'' a' w' := by
      intro k
      induction k with
      | zero => intro m'' hk hI; exact hno ⟨m'', hI, fun m3 _ => by omega⟩
      | succ k ih =>
        intro m'' hk hI
        refine hno ⟨m'', hI, fun m3 h3 => ?_⟩
        rcases Nat.lt_or_ge k m3 with h | h
        · omega
        · exact absurd h3 (ih m3 h)
    exact this m' m' (Nat.le_refl _) hm'
  classical
  let μ : Act → World → Nat := fun a' w' => if hh : ∃ m', I m' a' w' then Classical.choose (hleast a' w' hh) else 0
  have hμ : ∀ a' w' m', I m' a' w' → I (μ a' w') a' w' ∧ μ a' w' ≤ m' := by
    intro a' w' m' hm'
    have hh : ∃ m', I m' a' w' := ⟨m', hm'⟩
    have hs := Classical.choose_spec (hleast a' w' hh)
    have e : μ a' w' = Classical.choose (hleast a' w' hh) := by simp only [μ]; rw [dif_pos hh]
    rw [e]
    exact ⟨hs.1, hs.2 m' hm'⟩
  refine wp_loop (fun a' w' => ∃ m', I m' a' w') μ ⟨m, c, e, h, h0, hr, .refl, he, hn, rfl⟩ fun a1 w1 hI => ?_
  obtain ⟨m1, hI1⟩ := hI
  obtain ⟨⟨c1, e1, h1, hj, hr1, hx1, he1, hn1, hd1⟩, _⟩ := hμ a1 w1 m1 hI1
  have hb := awp_sound (n := n) hmix code b _ e1 h1 hord hc (hJ _ e1 h1 hj) c1 w1 a1 hr1 he1 hn1
  refine wp_mono hb fun ex a2 w2 hpost => ?_
  obtain ⟨c2, h2, e2, xx, hq, hr2, hx2, he2, hn2, hd2, hex⟩ := hpost
  cases ex with
  | normal =>
    cases xx <;> try exact hex.elim
    obtain ⟨e3, h3, ⟨m3, hlt, hj3⟩, hr3, he3, hx3⟩ := cutK_inv (ks := Env.keys e1) (k := fun e' h' => ∃ m', m' < μ a1 w1 ∧ J m' e' h') hq hr2 he2 hx2 (Nat.le_refl _)
    simp only [Exit.then]
    have hI3 : I m3 a2 w2 := ⟨c2, e3, h3, hj3, hr3, hx1.trans hr hx3, he3, hn2, hd2.trans hd1⟩
    exact ⟨⟨m3, hI3⟩, Nat.lt_of_le_of_lt (hμ a2 w2 m3 hI3).2 hlt⟩
  | exit i => cases xx <;> first | exact hex.elim | exact ⟨c2, h2, e2, _, hq, hr2, hx1.trans hr hx2, he2, hn2, hd2.trans hd1, hex⟩
  | goto l => cases xx <;> exact hex.elim
  | ret => cases xx <;> first | exact hex.elim | exact ⟨c2, h2, e2, _, hq, hr2, hx1.trans hr hx2, he2, hn2, hd2.trans hd1, hex⟩
  | panic ch => cases xx <;> first | exact hex.elim | exact ⟨c2, h2, e2, _, hq, hr2, hx1.trans hr hx2, he2, hn2, hd2.trans hd1, hex⟩
  | outgrown => cases xx <;> exact hex.elim

/-- The same; what was made up to a number lives on. -/
theorem loop_okN {P : Program} {b : ACode} {Q : AExit → Env → Heap → Prop} (J : Nat → Env → Heap → Prop)
    (hJ : ∀ m e h, J m e h → ∃ N K, h.nxt ≤ N ∧ (∀ e' h', K e' h' → ∃ m', m' < m ∧ J m' e' h') ∧ awp P b (backQ (Env.keys e) N Q K) e h) {m : Nat} {e : Env} {h : Heap} (h0 : J m e h) : ALoop P b Q e h := by
  refine ⟨fun n code hmix hord hc c w a hr he hn => ?_⟩
  let I : Nat → Act → World → Prop := fun m' a' w' => ∃ c' e' h', J m' e' h' ∧ Rep c' h' w' ∧ Ext c h w c' h' w' ∧ ER c' h' w' e' a'.tmps ∧ a'.tmps.size = n ∧ a'.defers = a.defers
  have hleast : ∀ a' w', (∃ m', I m' a' w') → ∃ m', I m' a' w' ∧ ∀ m'', I m'' a' w' → m' ≤ m'' := by
    intro a' w' ⟨m', hm'⟩
    refine Classical.byContradiction fun hno => ?_
    have : ∀ k, ∀ m'', m'' ≤ k → ¬ I m'' a' w' := by
      intro k
      induction k with
      | zero => intro m'' hk hI; exact hno ⟨m'', hI, fun m3 _ => by omega⟩
      | succ k ih =>
        intro m'' hk hI
        refine hno ⟨m'', hI, fun m3 h3 => ?_⟩
        rcases Nat.lt_or_ge k m3 with h | h
        · omega
        · exact absurd h3 (ih m3 h)
    exact this m' m' (Nat.le_refl _) hm'
  classical
  let μ : Act → World → Nat := fun a' w' => if hh : ∃ m', I m' a' w' then Classical.choose (hleast a' w' hh) else 0
  have hμ : ∀ a' w' m', I m' a' w' → I (μ a' w') a' w' ∧ μ a' w' ≤ m' := by
    intro a' w' m' hm'
    have hh : ∃ m', I m' a' w' := ⟨m', hm'⟩
    have hs := Classical.choose_spec (hleast a' w' hh)
    have e : μ a' w' = Classical.choose (hleast a' w' hh) := by simp only [μ]; rw [dif_pos hh]
    rw [e]
    exact ⟨hs.1, hs.2 m' hm'⟩
  refine wp_loop (fun a' w' => ∃ m', I m' a' w') μ ⟨m, c, e, h, h0, hr, .refl, he, hn, rfl⟩ fun a1 w1 hI => ?_
  obtain ⟨m1, hI1⟩ := hI
  obtain ⟨⟨c1, e1, h1, hj, hr1, hx1, he1, hn1, hd1⟩, _⟩ := hμ a1 w1 m1 hI1
  obtain ⟨N, K, hN, hK, hawp⟩ := hJ _ e1 h1 hj
  have hb := awp_sound (n := n) hmix code b _ e1 h1 hord hc hawp c1 w1 a1 hr1 he1 hn1
  refine wp_mono hb fun ex a2 w2 hpost => ?_
  obtain ⟨c2, h2, e2, xx, hq, hr2, hx2, he2, hn2, hd2, hex⟩ := hpost
  cases ex with
  | normal =>
    cases xx <;> try exact hex.elim
    obtain ⟨e3, h3, hk3, hr3, he3, hx3⟩ := cutK_inv (ks := Env.keys e1) (k := K) hq hr2 he2 hx2 hN
    obtain ⟨m3, hlt, hj3⟩ := hK _ _ hk3
    simp only [Exit.then]
    have hI3 : I m3 a2 w2 := ⟨c2, e3, h3, hj3, hr3, hx1.trans hr hx3, he3, hn2, hd2.trans hd1⟩
    exact ⟨⟨m3, hI3⟩, Nat.lt_of_le_of_lt (hμ a2 w2 m3 hI3).2 hlt⟩
  | exit i => cases xx <;> first | exact hex.elim | exact ⟨c2, h2, e2, _, hq, hr2, hx1.trans hr hx2, he2, hn2, hd2.trans hd1, hex⟩
  | goto l => cases xx <;> exact hex.elim
  | ret => cases xx <;> first | exact hex.elim | exact ⟨c2, h2, e2, _, hq, hr2, hx1.trans hr hx2, he2, hn2, hd2.trans hd1, hex⟩
  | panic ch => cases xx <;> first | exact hex.elim | exact ⟨c2, h2, e2, _, hq, hr2, hx1.trans hr hx2, he2, hn2, hd2.trans hd1, hex⟩
  | outgrown => cases xx <;> exact hex.elim

/-- A loop, its slots and its memory at the head of a round told by a datum. -/
theorem loop_ind {P : Program} {b : ACode} {Q : AExit → Env → Heap → Prop} {σ : Type} (env : σ → Env) (hp : σ → Heap) (μ : σ → Nat)
    (step : ∀ s, awp P b (backQ (Env.keys (env s)) (hp s).nxt Q (fun e' h' => ∃ s', μ s' < μ s ∧ e' = env s' ∧ h' = hp s')) (env s) (hp s)) (s : σ) : ALoop P b Q (env s) (hp s) :=
  loop_ok (fun m e h => ∃ s, μ s = m ∧ e = env s ∧ h = hp s) (fun m e h ⟨s, hm, he, hh⟩ => by
    subst hm; subst he; subst hh
    have key : (fun e' h' => ∃ s', μ s' < μ s ∧ e' = env s' ∧ h' = hp s') = fun e' h' => ∃ m', m' < μ s ∧ ∃ s, μ s = m' ∧ e' = env s ∧ h' = hp s := by
      funext e' h'
      apply propext
      constructor
      · rintro ⟨s', hlt, he, hh⟩; exact ⟨_, hlt, s', rfl, he, hh⟩
      · rintro ⟨m', hlt, s', rfl, he, hh⟩; exact ⟨s', hlt, he, hh⟩
    rw [← key]
    exact step s) ⟨s, rfl, rfl, rfl⟩

/-- A loop whose first round makes what lives on. -/
theorem loop_two {P : Program} {b : ACode} {Q : AExit → Env → Heap → Prop} {σ : Type} (env : σ → Env) (hp : σ → Heap) (μ : σ → Nat) (M N : Nat) {e : Env} {h : Heap} (hN : h.nxt ≤ N)
    (first : awp P b (backQ (Env.keys e) N Q (fun e' h' => ∃ s, μ s < M ∧ e' = env s ∧ h' = hp s)) e h)
    (step : ∀ s, awp P b (backQ (Env.keys (env s)) (hp s).nxt Q (fun e' h' => ∃ s', μ s' < μ s ∧ e' = env s' ∧ h' = hp s')) (env s) (hp s)) : ALoop P b Q e h :=
  loop_okN (fun m e' h' => (m = M ∧ e' = e ∧ h' = h) ∨ ∃ s, μ s = m ∧ e' = env s ∧ h' = hp s) (fun m e' h' hj => by
    rcases hj with ⟨rfl, rfl, rfl⟩ | ⟨s, rfl, rfl, rfl⟩
    · exact ⟨N, _, hN, fun e' h' ⟨s, hs, he, hh⟩ => ⟨μ s, hs, .inr ⟨s, rfl, he, hh⟩⟩, first⟩
    · exact ⟨_, _, Nat.le_refl _, fun e' h' ⟨s', hs, he, hh⟩ => ⟨μ s', hs, .inr ⟨s', rfl, he, hh⟩⟩, step s⟩) (.inl ⟨rfl, rfl, rfl⟩)

/-- So many rounds at most, one behind the other. -/
structure ARound (P : Program) (b : ACode) (Q : AExit → Env → Heap → Prop) (m : Nat) (e : Env) (h : Heap) : Prop where
  run : ∀ n code, P.follows .mixedOrders = true → ordsOk b = true → erase b = cCode P n code → ∀ (c : Cx) (w : World) (a : Act), Rep c h w → ER c h w e a.tmps → a.tmps.size = n → Code.rounds P code (Post c h w Q n a.defers) m a w

theorem rounds_mono {P : Program} {code : Code} {Q Q' : Exit → Act → World → Prop} (hq : ∀ e a w, Q e a w → Q' e a w) : ∀ (m : Nat) {a : Act} {w : World}, Code.rounds P code Q m a w → Code.rounds P code Q' m a w
  | 0, _, _, h => h.elim
  | m+1, _, _, h => by
    rw [rounds_succ] at h ⊢
    refine wp_mono h fun ex a' w' hx => ?_
    cases ex <;> first | exact hq _ _ _ hx | exact rounds_mono hq m hx

theorem ARound.succ {P : Program} {b : ACode} {Q : AExit → Env → Heap → Prop} {m : Nat} {e : Env} {h : Heap} (hp : awp P b (backQ (Env.keys e) h.nxt Q (ARound P b Q m)) e h) : ARound P b Q (m + 1) e h := by
  refine ⟨fun n code hmix hord hc c w a hr he hn => ?_⟩
  rw [rounds_succ]
  refine wp_mono (awp_sound (n := n) hmix code b _ e h hord hc hp c w a hr he hn) fun ex a2 w2 hpost => ?_
  obtain ⟨c2, h2, e2, xx, hq, hr2, hx2, he2, hn2, hd2, hex⟩ := hpost
  cases ex with
  | normal =>
    cases xx <;> try exact hex.elim
    obtain ⟨e3, h3, hj3, hr3, he3, hx3⟩ := cutK_inv (ks := Env.keys e) (k := ARound P b Q m) hq hr2 he2 hx2 (Nat.le_refl _)
    simp only [Exit.then]
    have := hj3.run n code hmix hord hc c2 w2 a2 hr3 he3 hn2
    rw [hd2] at this
    exact rounds_mono (fun _ _ _ hp2 => hp2.of hr hx3) m this
  | exit i => cases xx <;> first | exact hex.elim | exact ⟨c2, h2, e2, _, hq, hr2, hx2, he2, hn2, hd2, hex⟩
  | goto l => cases xx <;> exact hex.elim
  | ret => cases xx <;> first | exact hex.elim | exact ⟨c2, h2, e2, _, hq, hr2, hx2, he2, hn2, hd2, hex⟩
  | panic ch => cases xx <;> first | exact hex.elim | exact ⟨c2, h2, e2, _, hq, hr2, hx2, he2, hn2, hd2, hex⟩
  | outgrown => cases xx <;> exact hex.elim

theorem loop_rounds {P : Program} {b : ACode} {Q : AExit → Env → Heap → Prop} (m : Nat) {e : Env} {h : Heap} (hp : ARound P b Q m e h) : ALoop P b Q e h :=
  ⟨fun n code hmix hord hc c w a hr he hn => wp_loop_rounds m (hp.run n code hmix hord hc c w a hr he hn)⟩

/-! Loops that make memory which lives on: the slots of the loop's head are kept, and all memory. -/
section
noncomputable section
def keepQ (ks : List Nat) (Q : AExit → Env → Heap → Prop) (I : Env → Heap → Prop) : AExit → Env → Heap → Prop
  | .normal, e, h => pickK ks e fun e' => I e' h
  | x, e, h => Q x e h
end
/-- Some of the named memory. -/
structure HSub (A' A : Heap) : Prop where
  nxt : A'.nxt = A.nxt
  sub : ∀ i o, A'.obj i = some o → A.obj i = some o
theorem HSub.refl (A : Heap) : HSub A A := ⟨rfl, fun _ _ h => h⟩
theorem VR.hsub {c : Cx} {A A' : Heap} {w : World} (hs : HSub A' A) {v : SV} {x : Value} (h : VR c A w v x) : VR c A' w v x := by
  induction h with
  | pure h => exact .pure h
  | ref i g idx sub x hx hi hg h => exact .ref _ _ _ _ _ hx (by rw [hs.nxt]; exact hi) (fun o ho => hg o (hs.sub i o ho)) fun o ho => h o (hs.sub i o ho)
  | sl i g sz off len cap x hx hi hg h => exact .sl _ _ _ _ _ _ _ hx (by rw [hs.nxt]; exact hi) (fun o ho => hg o (hs.sub i o ho)) fun o ho => h o (hs.sub i o ho)
  | mapv i g x hx hi hg h => exact .mapv _ _ _ hx (by rw [hs.nxt]; exact hi) (fun o ho => hg o (hs.sub i o ho)) fun o ho => h o (hs.sub i o ho)
  | iface t v x _ ih => exact .iface _ _ _ ih
  | agg l cs hl _ ih => exact .agg _ _ hl ih
  | tup l cs hl _ ih => exact .tup _ _ hl ih
  | func fn a b a' b' ha hb _ _ ih ih' => exact .func _ _ _ _ _ ha hb ih ih'
theorem Rep.hsub {c : Cx} {A A' : Heap} {w : World} (hs : HSub A' A) (hr : Rep c A w) : Rep c A' w := by
  refine ⟨fun i o ho => by rw [hs.nxt]; exact hr.lt i o (hs.sub i o ho), fun i o ho => ?_, fun i j o p ho hp he => hr.inj i j o p (hs.sub i o ho) (hs.sub j p hp) he, fun i o ho => hr.apart i o (hs.sub i o ho), hr.im, hr.glob⟩
  cases hr.obj i o (hs.sub i o ho) with
  | vec g sz elems sk C ty fz hw hle heq hty hc hf hcell => exact .vec g sz elems sk C ty fz hw hle heq hty hc hf fun i j e v x a b d => (hcell i j e v x a b d).hsub hs
  | iter s pos hw => exact .iter s pos hw
  | map es cl hw hs' => exact .map es cl hw hs'
  | miter m since seen stepped r hw hm => exact .miter m since seen stepped r hw (hm.hsub hs)
  | fro g ty xs C fz hw hle hc => exact .fro g ty xs C fz hw hle hc
theorem Ext.hsub {c : Cx} {A A' : Heap} {w : World} (hs : HSub A' A) : Ext c A w c A' w :=
  ⟨rfl, rfl, rfl, Nat.le_refl _, fun _ _ _ => rfl, fun _ _ => rfl, fun _ h => h, fun _ h => .inl h, Nat.le_of_eq hs.nxt.symm, fun i o' _ h => ⟨o', hs.sub i o' h, Nat.le_refl _, rfl, fun _ => rfl⟩, fun i o' h => .inr ⟨o', hs.sub i o' h, rfl⟩⟩

theorem keep_inv {ks : List Nat} {e : Env} {h : Heap} {I : Env → Heap → Prop} (hp : pickK ks e fun e' => I e' h) {c : Cx} {w : World} {tmps : Array Value} (he : ER c h w e tmps) : ∃ e', I e' h ∧ ER c h w e' tmps := by
  obtain ⟨e', h1, h2⟩ := pickK_inv hp
  refine ⟨e', h1, fun t => ?_⟩
  rcases h2 t with h3 | h3 <;> rw [h3]
  · exact .undef
  · exact he t

theorem loop_full {P : Program} {b : ACode} {Q : AExit → Env → Heap → Prop} {σ : Type} (env : σ → Env) (hp : σ → Heap) (μ : σ → Nat)
    (step : ∀ s, awp P b (keepQ (Env.keys (env s)) Q (fun e' h' => ∃ s', μ s' < μ s ∧ e' = env s' ∧ HSub (hp s') h')) (env s) (hp s)) (s : σ) {h : Heap} (h0 : HSub (hp s) h) : ALoop P b Q (env s) h := by
  refine ⟨fun n code hmix hord hc c w a hr he hn => ?_⟩
  let I : σ → Act → World → Prop := fun s' a' w' => ∃ c', Rep c' (hp s') w' ∧ Ext c h w c' (hp s') w' ∧ ER c' (hp s') w' (env s') a'.tmps ∧ a'.tmps.size = n ∧ a'.defers = a.defers
  have hleast : ∀ a' w', (∃ s', I s' a' w') → ∃ s', I s' a' w' ∧ ∀ s'', I s'' a' w' → μ s' ≤ μ s'' := by
    intro a' w' ⟨s', hs'⟩
    refine Classical.byContradiction fun hno => ?_
    have : ∀ k, ∀ s'', μ s'' ≤ k → ¬ I s'' a' w' := by
      intro k
      induction k with
      | zero => intro s'' hk hI; exact hno ⟨s'', hI, fun s3 _ => by omega⟩
      | succ k ih =>
        intro s'' hk hI
        refine hno ⟨s'', hI, fun s3 h3 => ?_⟩
        rcases Nat.lt_or_ge k (μ s3) with h | h
        · omega
        · exact absurd h3 (ih s3 h)
    exact this (μ s') s' (Nat.le_refl _) hs'
  classical
  let ν : Act → World → Nat := fun a' w' => if hh : ∃ s', I s' a' w' then μ (Classical.choose (hleast a' w' hh)) else 0
  have hν : ∀ a' w' s', I s' a' w' → ∃ s'', I s'' a' w' ∧ μ s'' = ν a' w' ∧ ν a' w' ≤ μ s' := by
    intro a' w' s' hs'
    have hh : ∃ s', I s' a' w' := ⟨s', hs'⟩
    have hs := Classical.choose_spec (hleast a' w' hh)
    have e : ν a' w' = μ (Classical.choose (hleast a' w' hh)) := by simp only [ν]; rw [dif_pos hh]
    exact ⟨_, hs.1, e.symm, by rw [e]; exact hs.2 s' hs'⟩
  refine wp_loop (fun a' w' => ∃ s', I s' a' w') ν ⟨s, c, hr.hsub h0, .hsub h0, fun t => (he t).hsub h0, hn, rfl⟩ fun a1 w1 hI => ?_
  obtain ⟨s0, hI0⟩ := hI
  obtain ⟨s1, ⟨c1, hr1, hx1, he1, hn1, hd1⟩, hν1, _⟩ := hν a1 w1 s0 hI0
  have hb := awp_sound (n := n) hmix code b _ _ _ hord hc (step s1) c1 w1 a1 hr1 he1 hn1
  refine wp_mono hb fun ex a2 w2 hpost => ?_
  obtain ⟨c2, h2, e2, xx, hq, hr2, hx2, he2, hn2, hd2, hex⟩ := hpost
  cases ex with
  | normal =>
    cases xx <;> try exact hex.elim
    obtain ⟨e3, ⟨s3, hlt, rfl, hs3⟩, he3⟩ := keep_inv (I := fun e' h' => ∃ s', μ s' < μ s1 ∧ e' = env s' ∧ HSub (hp s') h') hq he2
    simp only [Exit.then]
    have hI3 : I s3 a2 w2 := ⟨c2, hr2.hsub hs3, (hx1.trans hr hx2).trans hr (.hsub hs3), fun t => (he3 t).hsub hs3, hn2, hd2.trans hd1⟩
    obtain ⟨s4, _, hν4, hle4⟩ := hν a2 w2 s3 hI3
    exact ⟨⟨s3, hI3⟩, by omega⟩
  | exit i => cases xx <;> first | exact hex.elim | exact ⟨c2, h2, e2, _, hq, hr2, hx1.trans hr hx2, he2, hn2, hd2.trans hd1, hex⟩
  | goto l => cases xx <;> exact hex.elim
  | ret => cases xx <;> first | exact hex.elim | exact ⟨c2, h2, e2, _, hq, hr2, hx1.trans hr hx2, he2, hn2, hd2.trans hd1, hex⟩
  | panic ch => cases xx <;> first | exact hex.elim | exact ⟨c2, h2, e2, _, hq, hr2, hx1.trans hr hx2, he2, hn2, hd2.trans hd1, hex⟩
  | outgrown => cases xx <;> exact hex.elim

/-- A round behind which all memory lives on. -/
theorem ARound.full {P : Program} {b : ACode} {Q : AExit → Env → Heap → Prop} {m : Nat} {e : Env} {h : Heap} (hp : awp P b (keepQ (Env.keys e) Q (ARound P b Q m)) e h) : ARound P b Q (m + 1) e h := by
  refine ⟨fun n code hmix hord hc c w a hr he hn => ?_⟩
  rw [rounds_succ]
  refine wp_mono (awp_sound (n := n) hmix code b _ e h hord hc hp c w a hr he hn) fun ex a2 w2 hpost => ?_
  obtain ⟨c2, h2, e2, xx, hq, hr2, hx2, he2, hn2, hd2, hex⟩ := hpost
  cases ex with
  | normal =>
    cases xx <;> try exact hex.elim
    obtain ⟨e3, hj3, he3⟩ := keep_inv (I := ARound P b Q m) hq he2
    simp only [Exit.then]
    have := hj3.run n code hmix hord hc c2 w2 a2 hr2 he3 hn2
    rw [hd2] at this
    exact rounds_mono (fun _ _ _ hp2 => hp2.of hr hx2) m this
  | exit i => cases xx <;> first | exact hex.elim | exact ⟨c2, h2, e2, _, hq, hr2, hx2, he2, hn2, hd2, hex⟩
  | goto l => cases xx <;> exact hex.elim
  | ret => cases xx <;> first | exact hex.elim | exact ⟨c2, h2, e2, _, hq, hr2, hx2, he2, hn2, hd2, hex⟩
  | panic ch => cases xx <;> first | exact hex.elim | exact ⟨c2, h2, e2, _, hq, hr2, hx2, he2, hn2, hd2, hex⟩
  | outgrown => cases xx <;> exact hex.elim
end

/-! ## Functions -/
inductive RV where
  | tmp (t : Nat)
  | cellS (t : Nat)
  | cellA (t n : Nat)
def cRes (P : Program) : List ResultVar → Option (List RV)
  | [] => some []
  | .tmp t :: r => (cRes P r).map (.tmp t :: ·)
  | .cell t ty :: r => match isAggT P ty, P.info? ty with
    | some true, some i => (cRes P r).map (.cellA t i.size :: ·)
    | some false, _ => (cRes P r).map (.cellS t :: ·)
    | _, _ => none
noncomputable section
def resK : List RV → Env → Heap → (List SV → Prop) → Prop
  | [], _, _, k => k []
  | .tmp t :: r, e, h, k => Env.getK e t fun v => resK r e h fun vs => k (v :: vs)
  | .cellS t :: r, e, h, k => Env.getK e t fun p => readP h p fun cs sub => match getL cs sub with
    | some v => resK r e h fun vs => k (v :: vs)
    | none => False
  | .cellA t n :: r, e, h, k => Env.getK e t fun p => readP h p fun cs sub => dropN cs sub fun cs => takeN cs n fun l => resK r e h fun vs => k (.agg l :: vs)
def finQ (rs : List RV) (R : AEnd → Heap → Prop) : AExit → Env → Heap → Prop
  | .normal, e, h | .ret, e, h => resK rs e h fun vs => match vs with
    | [v] => R (.ret v) h
    | vs => R (.ret (.tup vs)) h
  | .panic v, _, h => R (.pan v) h
  | .exit _, _, _ => False
def argEnv : Nat → List SV → Env
  | _, [] => []
  | i, v :: r => (i, v) :: argEnv (i + 1) r
end

theorem resK_run {P : Program} {c : Cx} {h : Heap} {w : World} {e : Env} {tmps : Array Value} (hr : Rep c h w) (he : ER c h w e tmps) : ∀ (vars : List ResultVar) (rs : List RV) (k : List SV → Prop), cRes P vars = some rs → resK rs e h k →
    ∃ vs xs, k vs ∧ (vars.mapM fun v => (match v with | .tmp t => pure (tmps.getD t undef) | .cell a t => do loadVar t (← asAddr (tmps.getD a undef)) : Sem Value)).run P w = .ok xs w ∧ xs.length = vs.length ∧
      ∀ (i : Nat) (v : SV) (x : Value), vs[i]? = some v → xs[i]? = some x → VR c h w v x
  | [], rs, k, hc, hp => by
    simp only [cRes, Option.some.injEq] at hc
    subst hc
    exact ⟨[], [], hp, by simp, rfl, fun i v x hv => by simp at hv⟩
  | .tmp t :: r, rs, k, hc, hp => by
    simp only [cRes, Option.map_eq_some_iff] at hc
    obtain ⟨rs', hc, rfl⟩ := hc
    simp only [resK, getK_eq] at hp
    obtain ⟨vs, xs, hk, hrun, hl, hv⟩ := resK_run hr he r rs' _ hc hp
    refine ⟨_, tmps.getD t undef :: xs, hk, ?_, by simp [hl], fun i v x h1 h2 => ?_⟩
    · rw [List.mapM_cons]
      simp only [Sem.run_bind, Sem.run_pure, Result.andThen_ok, hrun]
    · cases i with
      | zero => simp at h1 h2; subst h1; rw [← h2]; simpa using he t
      | succ i => exact hv i v x (by simpa using h1) (by simpa using h2)
  | .cell t ty :: r, rs, k, hc, hp => by
    simp only [cRes] at hc
    split at hc
    · rename_i i hag hi
      obtain ⟨rs', hc', rfl⟩ := Option.map_eq_some_iff.1 hc
      simp only [resK, getK_eq] at hp
      obtain ⟨cs, sub, b, base, C, tyy, fz, hk, hx, hw, hle, hcc⟩ := readP_inv hr (he t) hp
      obtain ⟨h1, hk⟩ := dropN_iff.1 hk
      obtain ⟨h2, hk⟩ := takeN_iff.1 hk
      simp only [List.length_drop] at h2
      obtain ⟨vs, xs, hk, hrun, hl, hv⟩ := resK_run hr he r rs' _ hc' hk
      let l := (C.toList.drop (base + sub)).take i.size
      have hll : l.length = i.size := by simp [l]; omega
      have hload := run_loadCells_list (P := P) w ⟨b, base + sub, none⟩ l (fun j v hv => by
        rw [add_eq]
        simp only [World.cell?, hw, Option.isSome_none]
        simp only [l, List.getElem?_take, List.getElem?_drop] at hv
        split at hv
        · simpa using hv
        · cases hv)
      rw [hll] at hload
      refine ⟨_, .agg l.toArray :: xs, hk, ?_, by simp [hl], fun j v x q1 q2 => ?_⟩
      · rw [List.mapM_cons, Sem.run_bind]
        have hhead : (do loadVar ty (← asAddr (tmps.getD t undef)) : Sem Value).run P w = .ok (.agg l.toArray) w := by
          simp only [Sem.run_bind, hx, asAddr, Sem.run_pure, Result.andThen_ok, loadVar, isAgg_run hag, if_true, sizeOf_run hi, hload]
        refine (congrArg (fun r => Result.andThen r _) hhead).trans ?_
        simp only [Result.andThen_ok, Sem.run_bind, hrun, Sem.run_pure]
      · cases j with
        | zero =>
          simp at q1 q2
          subst q1; subst q2
          refine .agg _ _ (by simp [l]; omega) fun j v y hv hy => ?_
          simp only [List.getElem?_take, List.getElem?_drop] at hv
          simp only [l, List.getElem?_toArray, List.getElem?_take, List.getElem?_drop] at hy
          split at hv
          · rw [if_pos ‹_›] at hy
            exact hcc (sub + j) v y hv (by simpa [Nat.add_assoc] using hy)
          · cases hv
        | succ j => exact hv j v x (by simpa using q1) (by simpa using q2)
    · rename_i hag
      obtain ⟨rs', hc', rfl⟩ := Option.map_eq_some_iff.1 hc
      simp only [resK, getK_eq] at hp
      obtain ⟨cs, sub, b, base, C, tyy, fz, hk, hx, hw, hle, hcc⟩ := readP_inv hr (he t) hp
      rw [getL_eq] at hk
      split at hk
      · rename_i v0 hv0
        have hlt : sub < cs.length := by
          rcases Nat.lt_or_ge sub cs.length with h | h
          · exact h
          · rw [List.getElem?_eq_none h] at hv0; cases hv0
        have hy : C[base + sub]? = some C[base + sub] := Array.getElem?_eq_getElem (by omega)
        obtain ⟨vs, xs, hk, hrun, hl, hv⟩ := resK_run hr he r rs' _ hc' hk
        refine ⟨_, C[base + sub] :: xs, hk, ?_, by simp [hl], fun j v x q1 q2 => ?_⟩
        · rw [List.mapM_cons, Sem.run_bind]
          have hcell : w.cell? ⟨b, base + sub, none⟩ = some C[base + sub] := by simp [World.cell?, hw, hy]
          have hhead : (do loadVar ty (← asAddr (tmps.getD t undef)) : Sem Value).run P w = .ok C[base + sub] w := by
            simp only [Sem.run_bind, hx, asAddr, Sem.run_pure, Result.andThen_ok, loadVar, isAgg_run hag, Bool.false_eq_true, if_false, run_load, hcell]
          refine (congrArg (fun r => Result.andThen r _) hhead).trans ?_
          simp only [Result.andThen_ok, Sem.run_bind, hrun, Sem.run_pure]
        · cases j with
          | zero => simp at q1 q2; subst q1; subst q2; exact hcc sub _ _ hv0 hy
          | succ j => exact hv j v x (by simpa using q1) (by simpa using q2)
      · exact hk.elim
    · cases hc

theorem results_run {P : Program} {fn : Func} {c : Cx} {h : Heap} {w : World} {e : Env} {tmps : Array Value} (hr : Rep c h w) (he : ER c h w e tmps) {rs : List RV} {R : AEnd → Heap → Prop} (hc : cRes P fn.results.toList = some rs)
    (hp : resK rs e h fun vs => match vs with | [v] => R (.ret v) h | vs => R (.ret (.tup vs)) h) : ∃ v x, R (.ret v) h ∧ (results fn tmps).run P w = .ok x w ∧ VR c h w v x := by
  obtain ⟨vs, xs, hk, hrun, hl, hv⟩ := resK_run hr he fn.results.toList rs _ hc hp
  have hres : (results fn tmps).run P w = .ok (if hh : xs.toArray.size = 1 then xs.toArray[0] else .tuple xs.toArray) w := by
    unfold results
    rw [Sem.run_bind, Array.mapM_eq_mapM_toList, Sem.run_map]
    exact congrArg (fun r => Result.andThen (Result.andThen r _) _) hrun
  rw [hres]
  split at hk
  · rename_i v
    obtain ⟨x, rfl⟩ : ∃ x, xs = [x] := List.length_eq_one_iff.1 (by simpa using hl)
    exact ⟨v, x, hk, by simp, hv 0 v x rfl rfl⟩
  · rename_i hne
    refine ⟨_, _, hk, rfl, ?_⟩
    rw [dif_neg (fun hh => ?_)]
    · exact .tup _ _ (by simp [hl]) fun i v x h1 h2 => hv i v x h1 (by simpa using h2)
    · have : vs.length = 1 := by rw [← hl]; simpa using hh
      obtain ⟨v, rfl⟩ := List.length_eq_one_iff.1 this
      exact hne v rfl

theorem argEnv_get : ∀ (l : List SV) (i t : Nat), Env.get (argEnv i l) t = if i ≤ t then l.getD (t - i) .undef else .undef
  | [], i, t => by simp [argEnv, Env.get]
  | v :: r, i, t => by
    unfold argEnv Env.get
    rcases beq_cases i t with ⟨h, h'⟩ | ⟨h, h'⟩ <;> rw [h]
    · subst h'; simp
    · simp only [cond_false]
      rw [argEnv_get r (i + 1) t]
      by_cases hle : i ≤ t
      · rw [if_pos hle, if_pos (by omega)]
        have : t - i = (t - (i + 1)) + 1 := by omega
        rw [this]
        simp
      · rw [if_neg hle, if_neg (by omega)]

/-- A function's contract, by the symbolic run of its code. -/
theorem acall_of_awpC {P : Program} {Γ : CallR} {Λ : LoopR} (hΓ : Γ.Ok P) (hΛ : ∀ b Q e h, Λ b Q e h → ALoop P b Q e h) {f : FuncId} {fn : Func} {code : Code} {ac : ACode} {rs : List RV} {args : List SV} {h : Heap} {R : AEnd → Heap → Prop} (hm : P.follows .mixedOrders = true) (hf : P.funcs[f]? = some fn) (hb : fn.body = some code)
    (ho : ordsOk ac = true) (hc : erase ac = cCode P fn.ntmps code) (hrs : cRes P fn.results.toList = some rs) (hn : Nat.ble args.length fn.ntmps = true) (hp : awpC P Γ Λ ac (finQ rs R) (argEnv 0 args) h) : ACall P f args h R := by
  refine ⟨fun c w xs hr hs hv => ?_⟩
  have hn := Nat.le_of_ble_eq_true hn
  refine calls_of_wp hf hb (wp_mono (awpC_sound (n := fn.ntmps) hΓ hΛ hm code ac _ _ h ho hc hp c w { tmps := xs ++ Array.replicate (fn.ntmps - xs.size) undef, defers := [] } hr (fun t => ?_) (by simp; omega)) fun ex a' w' hpost => ?_)
  · rw [argEnv_get, if_pos (Nat.zero_le _), Nat.sub_zero]
    by_cases ht : t < args.length
    · have h1 : args[t]? = some args[t] := List.getElem?_eq_getElem ht
      have h2 : xs[t]? = some xs[t] := Array.getElem?_eq_getElem (by omega)
      have := hv t _ _ h1 h2
      have e1 : args.getD t .undef = args[t] := by simp [List.getD, h1]
      have e2 : (xs ++ Array.replicate (fn.ntmps - xs.size) undef).getD t undef = xs[t] := by
        rw [Array.getD_eq_getD_getElem?, Array.getElem?_append_left (by omega), h2]; rfl
      rw [e1, e2]
      exact this
    · have e1 : args.getD t .undef = .undef := by simp [List.getD, List.getElem?_eq_none (Nat.le_of_not_lt ht)]
      rw [e1]
      exact .undef
  · obtain ⟨c', h', e', xx, hq, hr', hx', he', hn', hd', hex⟩ := hpost
    have fin : (resK rs e' h' fun vs => match vs with | [v] => R (.ret v) h' | vs => R (.ret (.tup vs)) h') → a'.defers = [] ∧ ∃ v, (results fn a'.tmps).run P w' = .ok v w' ∧ ∃ c' h' r, R r h' ∧ Rep c' h' w' ∧ Ext c h w c' h' w' ∧ match r with
      | .ret u => ∃ x, Ending.returned v = .returned x ∧ VR c' h' w' u x
      | .pan u => ∃ x, Ending.returned v = .panicked [{ v := x, recovered := false }] ∧ VR c' h' w' u x := fun hq => by
      obtain ⟨v, x, hR, hrun, hvx⟩ := results_run (P := P) (fn := fn) hr' he' hrs hq
      exact ⟨hd', x, hrun, c', h', .ret v, hR, hr', hx', x, rfl, hvx⟩
    cases ex with
    | normal => cases xx <;> first | exact hex.elim | exact fin hq
    | exit i => cases xx <;> first | exact hex.elim | exact hq.elim
    | goto l => cases xx <;> exact hex.elim
    | ret => cases xx <;> first | exact hex.elim | exact fin hq
    | panic ch =>
      cases xx <;> try exact hex.elim
      obtain ⟨x, rfl, hvx⟩ := hex
      exact ⟨hd', c', h', .pan _, hq, hr', hx', x, rfl, hvx⟩
    | outgrown => cases xx <;> exact hex.elim

/-- A function's contract, by the symbolic run of its code. -/
theorem acall_of_awp {P : Program} {f : FuncId} {fn : Func} {code : Code} {ac : ACode} {rs : List RV} {args : List SV} {h : Heap} {R : AEnd → Heap → Prop} (hm : P.follows .mixedOrders = true) (hf : P.funcs[f]? = some fn) (hb : fn.body = some code)
    (ho : ordsOk ac = true) (hc : erase ac = cCode P fn.ntmps code) (hrs : cRes P fn.results.toList = some rs) (hn : Nat.ble args.length fn.ntmps = true) (hp : awp P ac (finQ rs R) (argEnv 0 args) h) : ACall P f args h R :=
  acall_of_awpC (Γ := aCall P) (Λ := ALoop P) aCall_ok (fun _ _ _ _ h => h) hm hf hb ho hc hrs hn hp

theorem ACall.mono {P : Program} {f : FuncId} {args : List SV} {h : Heap} {R R' : AEnd → Heap → Prop} (hc : ACall P f args h R) (hR : ∀ r h', R r h' → R' r h') : ACall P f args h R' :=
  ⟨fun c w xs hr hs hv => (hc.calls c w xs hr hs hv).mono fun _ _ ⟨c', h', r, hk, rest⟩ => ⟨c', h', r, hR r h' hk, rest⟩⟩
end Ab
namespace Ab
set_option linter.unusedVariables false
set_option linter.unusedSimpArgs false
open Go

/-- A value that speaks of no name. -/
inductive LitV : SV → Prop
  | undef : LitV .undef
  | bool (b : Bool) : LitV (.bool b)
  | int (k : IntKind) (n : Int) : LitV (.int k n)
  | str (s : List UInt8) : LitV (.str s)
  | nilp : LitV .nilp
  | ipt (v : SV) (sub : Nat) : LitV (.ipt v sub)
  | glob (g : Nat) : LitV (.glob g)
  | nils : LitV .nils
  | lst (sz n : Nat) (get : Nat → SV) : LitV (.lst sz n get)
  | nilf : LitV .nilf
  | nili : LitV .nili
  | nilm : LitV .nilm
  | iface (t : TypeId) {v : SV} (h : LitV v) : LitV (.iface t v)
  | agg {l : List SV} (h : ∀ v ∈ l, LitV v) : LitV (.agg l)
  | tup {l : List SV} (h : ∀ v ∈ l, LitV v) : LitV (.tup l)
  | func (fn : Fn) {a b : List SV} (h : ∀ v ∈ a, LitV v) (h' : ∀ v ∈ b, LitV v) : LitV (.func fn a b)

theorem LitV.vp {v : SV} (hl : LitV v) : ∀ {c : Cx} {h : Heap} {w : World} {x : Value}, VR c h w v x → VP c.Im w v x := by
  induction hl with
  | iface t _ ih => intro c h w x hv; obtain ⟨y, rfl, hy⟩ := hv.iface_inv; exact .iface _ _ _ (ih hy)
  | agg _ ih => intro c h w x hv; obtain ⟨cs, rfl, h1, h2⟩ := hv.agg_inv; exact .agg _ _ h1 fun i v x a b => ih v (List.mem_of_getElem? a) (h2 i v x a b)
  | tup _ ih => intro c h w x hv; obtain ⟨cs, rfl, h1, h2⟩ := hv.tup_inv; exact .tup _ _ h1 fun i v x a b => ih v (List.mem_of_getElem? a) (h2 i v x a b)
  | func fn _ _ ih ih' => intro c h w x hv; obtain ⟨a', b', rfl, h1, h2, h3, h4⟩ := hv.func_inv; exact .func _ _ _ _ _ h1 h2 (fun i v x a b => ih v (List.mem_of_getElem? a) (h3 i v x a b)) fun i v x a b => ih' v (List.mem_of_getElem? a) (h4 i v x a b)
  | _ => intro c h w x hv; cases hv with | pure hv => exact hv

/-- What a value comes to, if the blocks that it speaks of are written no more. -/
inductive Hard (A : Heap) : SV → SV → Prop
  | row {sz n : Nat} {get get' : Nat → SV} (h : ∀ j, j < n → Lk (get' j) (get j)) : Hard A (.lst sz n get) (.lst sz n get')
  | lit {v : SV} (h : LitV v) : Hard A v v
  | iface (t : TypeId) {v v' : SV} (h : Hard A v v') : Hard A (.iface t v) (.iface t v')
  | agg {l l' : List SV} (hl : l.length = l'.length) (h : ∀ (i : Nat) (v v' : SV), l[i]? = some v → l'[i]? = some v' → Hard A v v') : Hard A (.agg l) (.agg l')
  | tup {l l' : List SV} (hl : l.length = l'.length) (h : ∀ (i : Nat) (v v' : SV), l[i]? = some v → l'[i]? = some v' → Hard A v v') : Hard A (.tup l) (.tup l')
  | sl {i g sz off len : Nat} {cap : Option Nat} {elems : List SV} {sk : Sk} {get : Nat → SV} (ho : A.obj i = some (.vec g sz elems sk)) (hle : off + len ≤ elems.length)
      (h : ∀ (j : Nat) (v : SV), j < len → elems[off + j]? = some v → Hard A v (get j)) : Hard A (.sl i g sz off len cap) (.lst sz len get)
  | same {sz n : Nat} {get get' : Nat → SV} (h : ∀ j, j < n → get j = get' j) : Hard A (.lst sz n get) (.lst sz n get')
  | ref {i g idx sub sz : Nat} {elems : List SV} {sk : Sk} {v v' : SV} (ho : A.obj i = some (.vec g sz elems sk)) (hi : elems[idx]? = some v) (h : Hard A v v') : Hard A (.ref i g idx sub) (.ipt v' sub)

theorem Hard.cells {A : Heap} {v v' : SV} (h : Hard A v v') : v'.cells.length = v.cells.length ∧ ∀ (j : Nat) (u u' : SV), v.cells[j]? = some u → v'.cells[j]? = some u' → Hard A u u' := by
  have one : ∀ {v v' : SV}, Hard A v v' → v.cells = [v] → v'.cells = [v'] → v'.cells.length = v.cells.length ∧ ∀ (j : Nat) (u u' : SV), v.cells[j]? = some u → v'.cells[j]? = some u' → Hard A u u' := by
    intro v v' h h1 h2
    rw [h1, h2]
    refine ⟨rfl, fun j u u' hu hu' => ?_⟩
    cases j with
    | zero => simp at hu hu'; subst hu; subst hu'; exact h
    | succ j => simp at hu
  cases h with
  | lit hl =>
    refine ⟨rfl, fun j u u' hu hu' => ?_⟩
    rw [hu] at hu'; cases hu'
    cases hl with
    | agg hh => exact .lit (hh u (List.mem_of_getElem? hu))
    | _ => cases j with
      | zero => simp only [SV.cells, List.getElem?_cons_zero, Option.some.injEq] at hu; subst hu; exact .lit (by constructor <;> assumption)
      | succ j => simp [SV.cells] at hu
  | iface t h => exact one (.iface t h) rfl rfl
  | agg hl h => exact ⟨hl.symm, h⟩
  | tup hl h => exact one (.tup hl h) rfl rfl
  | sl ho hle h => exact one (.sl ho hle h) rfl rfl
  | same h => exact one (.same h) rfl rfl
  | row h => exact one (.row h) rfl rfl
  | ref ho hi h => exact one (.ref ho hi h) rfl rfl

theorem elem_vp {A : Heap} {c : Cx} {w : World} {Im : Nat → Prop} {v v' : SV} {C : Array Value} {base : Nat} (hh : Hard A v v') (ih : ∀ {x : Value}, VR c A w v x → VP Im w v' x)
    (hcell : ∀ (p : Nat) (u : SV) (y : Value), v.cells[p]? = some u → C[base + p]? = some y → VR c A w u y) (hs : base + v.cells.length ≤ C.size) {p : Nat} {u : SV} {y : Value} (hu : v'.cells[p]? = some u) (hy : C[base + p]? = some y) : VP Im w u y := by
  by_cases hagg : ∃ l, v = .agg l
  · obtain ⟨l, rfl⟩ := hagg
    have hp : p < l.length := by
      have : v'.cells.length = l.length := hh.cells.1
      rcases Nat.lt_or_ge p l.length with h | h
      · exact h
      · rw [List.getElem?_eq_none (by omega)] at hu; cases hu
    refine VP.cells (ih (x := .agg (C.extract base (base + l.length))) (.agg _ _ ?_ fun i v x a b => ?_)) hu ?_
    · simp only [SV.cells] at hs
      simp; omega
    · have hi : i < l.length := by
        rcases Nat.lt_or_ge i l.length with h | h
        · exact h
        · rw [List.getElem?_eq_none h] at a; cases a
      rw [Array.getElem?_extract] at b
      split at b
      · exact hcell i v x a b
      · cases b
    · simp only [Value.cells, Array.getElem?_extract]
      simp only [SV.cells] at hs
      rw [if_pos (by omega)]
      exact hy
  · have h1 : v.cells = [v] := by cases v <;> first | rfl | exact absurd ⟨_, rfl⟩ hagg
    have hp : p = 0 := by
      have := hh.cells.1
      rw [h1] at this
      rcases Nat.eq_zero_or_pos p with h | h
      · exact h
      · rw [List.getElem?_eq_none (by simp at this; omega)] at hu; cases hu
    subst hp
    have hv := hcell 0 v y (by rw [h1]; rfl) hy
    by_cases hun : v = .undef
    · subst hun
      cases hh with
      | lit hl => simp only [SV.cells, List.getElem?_cons_zero, Option.some.injEq] at hu; subst hu; exact .undef _
    · refine VP.cells (ih hv) hu ?_
      rw [hv.noAgg hun (fun l hl => hagg ⟨l, hl⟩)]
      rfl

theorem Hard.vp {A : Heap} {c : Cx} {w : World} (hr : Rep c A w) {Im : Nat → Prop} (hI : ∀ b, c.Im b → Im b) (hB : ∀ i o, A.obj i = some o → Im (c.β i)) {v v' : SV} (hh : Hard A v v') : ∀ {x : Value}, VR c A w v x → VP Im w v' x := by
  induction hh with
  | lit h => intro x hv; exact (h.vp hv).mono hI (fun _ _ => rfl)
  | iface t _ ih => intro x hv; obtain ⟨y, rfl, hy⟩ := hv.iface_inv; exact .iface _ _ _ (ih hy)
  | agg hl _ ih =>
    rename_i l l' _
    intro x hv
    obtain ⟨cs, rfl, h1, h2⟩ := hv.agg_inv
    refine .agg _ _ (h1.trans hl) fun i v x a b => ?_
    have hi : i < l.length := by
      rw [hl]
      rcases Nat.lt_or_ge i l'.length with h | h
      · exact h
      · rw [List.getElem?_eq_none h] at a; cases a
    exact ih i _ v (List.getElem?_eq_getElem hi) a (h2 i _ x (List.getElem?_eq_getElem hi) b)
  | tup hl _ ih =>
    rename_i l l' _
    intro x hv
    obtain ⟨cs, rfl, h1, h2⟩ := hv.tup_inv
    refine .tup _ _ (h1.trans hl) fun i v x a b => ?_
    have hi : i < l.length := by
      rw [hl]
      rcases Nat.lt_or_ge i l'.length with h | h
      · exact h
      · rw [List.getElem?_eq_none h] at a; cases a
    exact ih i _ v (List.getElem?_eq_getElem hi) a (h2 i _ x (List.getElem?_eq_getElem hi) b)
  | sl ho hle hhard ih =>
    rename_i i g sz off len cap elems sk get
    intro x hv
    obtain ⟨_, ad, cc, rfl, hlc, _, hor⟩ := hv.sl_inv ho rfl
    by_cases hz : len = 0
    · subst hz; exact .lst0 _ _ _ _
    · rcases hor with h0 | ⟨rfl, ty, n, hsh, hle2⟩
      · omega
      · cases hr.obj i _ ho with
        | vec _ _ _ _ C ty fz hw hle3 heq hty hc hf hcell =>
          have hel : ∀ j, j < len → ∃ v, elems[off + j]? = some v ∧ v.cells.length = sz ∧ (get j).cells.length = sz := fun j hj => by
            have hv : elems[off + j]? = some elems[off + j] := List.getElem?_eq_getElem (by omega)
            have h1 := hc _ (List.mem_of_getElem? hv)
            exact ⟨_, hv, h1, by rw [(hhard j _ hj hv).cells.1]; exact h1⟩
          refine .lst sz len get _ (off * sz) cc C ty fz (hB i _ ho) hw ?_ hlc (fun j hj => (hel j hj).choose_spec.2.2) fun j p u y hj hu hy => ?_
          · have : (off + len) * sz ≤ elems.length * sz := Nat.mul_le_mul_right _ hle
            rw [Nat.add_mul] at this
            omega
          · obtain ⟨v, hve, hvl, hgl⟩ := hel j hj
            have hle4 : (off + j + 1) * sz ≤ elems.length * sz := Nat.mul_le_mul_right _ (by omega)
            rw [Nat.succ_mul, Nat.add_mul] at hle4
            refine elem_vp (base := off * sz + j * sz) (hhard j v hj hve) (ih j v hj hve) (fun p' u' y' hu' hy' => hcell (off + j) p' v u' y' hve hu' (by rw [Nat.add_mul]; exact hy')) (by rw [hvl]; omega) hu hy
  | row hrow =>
    intro x hv
    cases hv with
    | pure hp => exact ((Lk.lst hrow).vp hp).mono hI (fun _ _ => rfl)
  | same hsame =>
    rename_i sz n get get'
    intro x hv
    cases hv with
    | pure hp =>
      cases hp with
      | lst0 => exact .lst0 _ _ _ _
      | lst _ _ _ b off cap C ty fz hb hw hn hcap hc h =>
        exact .lst sz n get' b off cap C ty fz (hI b hb) hw hn hcap (fun i hi => by rw [← hsame i hi]; exact hc i hi) fun i j v x hi hv hx => (h i j v x hi (by rw [hsame i hi]; exact hv) hx).mono hI fun _ _ => rfl
  | ref ho hi hhard ih =>
    rename_i i g idx sub sz elems sk v v'
    intro x hv
    have hx := hv.ref_inv ho rfl
    subst hx
    cases hr.obj i _ ho with
    | vec _ _ _ _ C ty fz hw hle heq hty hc hf hcell =>
      have hvl := hc _ (List.mem_of_getElem? hi)
      have hidx : idx < elems.length := by
        rcases Nat.lt_or_ge idx elems.length with h | h
        · exact h
        · rw [List.getElem?_eq_none h] at hi; cases hi
      have hle4 : (idx + 1) * sz ≤ elems.length * sz := Nat.mul_le_mul_right _ hidx
      rw [Nat.succ_mul] at hle4
      refine .ipt v' sub _ (idx * sz) C ty fz (hB i _ ho) hw (by rw [hhard.cells.1, hvl]; omega) fun p u y hu hy => ?_
      exact elem_vp (base := idx * sz) hhard ih (fun p' u' y' hu' hy' => hcell idx p' v u' y' hi hu' hy') (by rw [hvl]; omega) hu hy

/-- A call that comes to a value, whatever named memory there is. -/
def PCall (P : Program) (f : FuncId) (args : List SV) (v : SV) : Prop := (∀ a ∈ args, LitV a) ∧ ACall P f args ⟨0, []⟩ fun r h' => ∃ v', r = .ret v' ∧ Hard h' v' v

theorem pcall_of {P : Program} {f : FuncId} {args : List SV} {v : SV} (hargs : ∀ a ∈ args, LitV a) (hp : ACall P f args ⟨0, []⟩ fun r h' => ∃ v', r = .ret v' ∧ Hard h' v' v) : PCall P f args v := ⟨hargs, hp⟩

/-- Out of a run that begins with no named memory. -/
theorem PCall.run {P : Program} {f : FuncId} {args : List SV} {v : SV} (hpc : PCall P f args v) (h : Heap) : ACall P f args h fun r h' => r = .ret v ∧ h' = h := by
  obtain ⟨hargs, hp⟩ := hpc
  refine ⟨fun c w xs hr hs hv => ?_⟩
  have hr0 : Rep c ⟨0, []⟩ w := ⟨(fun i o ho => by cases ho), (fun i o ho => by cases ho), (fun i j o p ho => by cases ho), (fun i o ho => by cases ho), hr.im, hr.glob⟩
  refine (hp.calls c w xs hr0 hs fun i u x hu hx => .pure ((hargs u (List.mem_of_getElem? hu)).vp (hv i u x hu hx))).mono fun en w' hpost => ?_
  obtain ⟨c', h', r, ⟨v', rfl, hhard⟩, hr', hx', x, rfl, hvx⟩ := hpost
  have hfr : ∀ b, b < w.heap.size → w'.heap[b]? = w.heap[b]? := fun b hb => hx'.frame b hb fun i o ho => by cases ho
  have hnew : ∀ i o, h'.obj i = some o → w.heap.size ≤ c'.β i := fun i o ho => by
    rcases hx'.new i o ho with h | ⟨o', ho', _⟩
    · exact h
    · cases ho'
  let c2 : Cx := ⟨c.β, fun b => c'.Im b ∨ ∃ i o, h'.obj i = some o ∧ c'.β i = b⟩
  have him : ∀ b, c2.Im b → c.Im b ∨ w.heap.size ≤ b := by
    rintro b (hb | ⟨i, o, ho, rfl⟩)
    · rcases hx'.im' b hb with hb | hb | ⟨i, o, ho, _⟩
      · exact .inl hb
      · exact .inr hb
      · cases ho
    · exact .inr (hnew i o ho)
  have hext : Ext c h w c2 h w' := ⟨hx'.os, hx'.tape, hx'.output, hx'.size, fun b hb _ => hfr b hb, hx'.shape, fun b hb => .inl (hx'.im b hb), fun b hb => (him b hb).imp id .inl, Nat.le_refl _,
    fun i o _ ho => ⟨o, ho, Nat.le_refl _, rfl, fun _ => rfl⟩, fun i o ho => .inr ⟨o, ho, rfl⟩⟩
  refine ⟨c2, h, .ret v, ⟨rfl, rfl⟩, ⟨hr.lt, fun i o ho => (hr.obj i o ho).mono hr hext (hfr _ (hr.obj i o ho).lt), hr.inj, fun i o ho hb => ?_, fun b hb => ?_, hr.globx hext⟩, hext, x, rfl, .pure (hhard.vp hr' (fun b hb => .inl hb) (fun i o ho => .inr ⟨i, o, ho, rfl⟩) hvx)⟩
  · rcases him _ hb with h1 | h1
    · exact hr.apart i o ho h1
    · have := (hr.obj i o ho).lt
      have e : c2.β i = c.β i := rfl
      omega
  · rcases hb with hb | ⟨i, o, ho, rfl⟩
    · exact hr'.im b hb
    · exact (hr'.obj i o ho).lt

theorem PCall.call {P : Program} {f : FuncId} {args : List SV} {v : SV} (hp : PCall P f args v) {h : Heap} {R : AEnd → Heap → Prop} (hR : R (.ret v) h) : ACall P f args h R :=
  (hp.run h).mono fun r h' ⟨h1, h2⟩ => by subst h1; subst h2; exact hR

theorem leaf {h : Heap} {v v' : SV} (he : v = v') (hl : LitV v') : ∃ u, AEnd.ret v = .ret u ∧ Hard h u v' := ⟨v', by rw [he], .lit hl⟩
theorem lit2 {a b : SV} (ha : LitV a) (hb : LitV b) : LitV (.tup [a, b]) := .tup (by simp only [List.mem_cons, List.not_mem_nil, or_false]; rintro _ (rfl | rfl); exact ha; exact hb)
theorem lits1 {a : SV} (ha : LitV a) : ∀ x ∈ [a], LitV x := by simp only [List.mem_singleton]; rintro _ rfl; exact ha
theorem lits2 {a b : SV} (ha : LitV a) (hb : LitV b) : ∀ x ∈ [a, b], LitV x := by simp only [List.mem_cons, List.not_mem_nil, or_false]; rintro _ (rfl | rfl); exact ha; exact hb
theorem lits3 {a b c : SV} (ha : LitV a) (hb : LitV b) (hc : LitV c) : ∀ x ∈ [a, b, c], LitV x := by simp only [List.mem_cons, List.not_mem_nil, or_false]; rintro _ (rfl | rfl | rfl); exact ha; exact hb; exact hc
theorem lits4 {a b c d : SV} (ha : LitV a) (hb : LitV b) (hc : LitV c) (hd : LitV d) : ∀ x ∈ [a, b, c, d], LitV x := by simp only [List.mem_cons, List.not_mem_nil, or_false]; rintro _ (rfl | rfl | rfl | rfl); exact ha; exact hb; exact hc; exact hd
end Ab
namespace Ab
set_option linter.unusedVariables false
set_option linter.unusedSimpArgs false
open Go

def offK (S : Nat → Bool) : List (Nat × AObj) → (List (Nat × AObj) → Prop) → Prop
  | [], k => k []
  | (i, o) :: r, k => @Bool.rec (fun _ => Prop) (offK S r fun r' => k ((i, o) :: r')) (offK S r k) (S i)
def offL (S : Nat → Bool) : List (Nat × AObj) → List (Nat × AObj)
  | [] => []
  | (i, o) :: r => bif S i then offL S r else (i, o) :: offL S r
def onL (S : Nat → Bool) : List (Nat × AObj) → List (Nat × AObj)
  | [] => []
  | (i, o) :: r => bif S i then (i, o) :: onL S r else onL S r
theorem offK_eq (S : Nat → Bool) : ∀ (l : List (Nat × AObj)) (k : List (Nat × AObj) → Prop), offK S l k = k (offL S l)
  | [], k => rfl
  | (i, o) :: r, k => by
    unfold offK offL
    cases S i
    · exact offK_eq S r _
    · exact offK_eq S r _
theorem objL_off (S : Nat → Bool) : ∀ (l : List (Nat × AObj)) (i : Nat), objL (offL S l) i = if S i = true then none else objL l i
  | [], i => by simp [offL, objL]
  | (j, o) :: r, i => by
    unfold offL
    cases hj : S j
    · simp only [cond_false]
      unfold objL
      by_cases h : j = i
      · subst h; rw [if_pos rfl, if_pos rfl, hj]; rfl
      · rw [if_neg h, if_neg h]; exact objL_off S r i
    · simp only [cond_true]
      rw [objL_off S r i]
      conv => rhs; unfold objL
      by_cases h : j = i
      · subst h; rw [hj]; rfl
      · rw [if_neg h]
theorem objL_on (S : Nat → Bool) : ∀ (l : List (Nat × AObj)) (i : Nat), objL (onL S l) i = if S i = true then objL l i else none
  | [], i => by simp [onL, objL]
  | (j, o) :: r, i => by
    unfold onL
    cases hj : S j
    · simp only [cond_false]
      rw [objL_on S r i]
      conv => rhs; unfold objL
      by_cases h : j = i
      · subst h; rw [hj]; rfl
      · rw [if_neg h]
    · simp only [cond_true]
      unfold objL
      by_cases h : j = i
      · subst h; rw [if_pos rfl, if_pos rfl, hj]; rfl
      · rw [if_neg h, if_neg h]; exact objL_on S r i

inductive HardL (A : Heap) : List SV → List SV → Prop
  | nil : HardL A [] []
  | cons {v v' : SV} {l l' : List SV} (h : Hard A v v') (r : HardL A l l') : HardL A (v :: l) (v' :: l')
theorem HardL.len {A : Heap} {l l' : List SV} (h : HardL A l l') : l.length = l'.length := by induction h <;> simp_all
theorem HardL.at_ {A : Heap} {l l' : List SV} (h : HardL A l l') : ∀ {i : Nat} {v : SV}, l'[i]? = some v → ∃ u, l[i]? = some u ∧ Hard A u v := by
  induction h with
  | nil => intro i v hv; simp at hv
  | cons h _ ih =>
    intro i v hv
    cases i with
    | zero => simp at hv; subst hv; exact ⟨_, rfl, h⟩
    | succ i => simp at hv; obtain ⟨u, hu, hh⟩ := ih hv; exact ⟨u, by simpa using hu, hh⟩

section
variable {c : Cx} {h : Heap} {w : World} (S : Nat → Bool)
def frz (c : Cx) (h : Heap) : Cx := ⟨c.β, fun b => c.Im b ∨ ∃ i o, h.obj i = some o ∧ S i = true ∧ c.β i = b⟩

theorem off_sub {i : Nat} {o : AObj} (ho : (Heap.mk h.nxt (offL S h.l)).obj i = some o) : h.obj i = some o ∧ S i = false := by
  unfold Heap.obj at ho ⊢
  rw [objL_off] at ho
  cases hs : S i
  · rw [hs] at ho; exact ⟨ho, rfl⟩
  · rw [hs] at ho; cases ho
theorem on_sub {i : Nat} {o : AObj} (ho : (Heap.mk h.nxt (onL S h.l)).obj i = some o) : h.obj i = some o ∧ S i = true := by
  unfold Heap.obj at ho ⊢
  rw [objL_on] at ho
  cases hs : S i
  · rw [hs] at ho; cases ho
  · rw [hs] at ho; exact ⟨ho, rfl⟩

theorem Rep.frz (hr : Rep c h w) : Rep (frz S c h) ⟨h.nxt, offL S h.l⟩ w where
  lt i o ho := hr.lt i o (off_sub S ho).1
  obj i o ho := by
    have := (hr.obj i o (off_sub S ho).1).sub (A' := ⟨h.nxt, offL S h.l⟩) (fun i o ho => (off_sub S ho).1) rfl
    exact OR.im (c := c) (c' := Ab.frz S c h) (fun hv => VR.im (c := c) (c' := Ab.frz S c h) rfl (fun b hb => .inl hb) hv) this
  inj i j o p ho hp he := hr.inj i j o p (off_sub S ho).1 (off_sub S hp).1 he
  apart i o ho := by
    rintro (hb | ⟨j, p, hp, hs, he⟩)
    · exact hr.apart i o (off_sub S ho).1 hb
    · have := hr.inj j i p o hp (off_sub S ho).1 he
      subst this
      rw [(off_sub S ho).2] at hs; cases hs
  im b hb := by
    rcases hb with hb | ⟨j, p, hp, _, rfl⟩
    · exact hr.im b hb
    · exact (hr.obj j p hp).lt
  glob := hr.glob.mono (fun b hb => .inl hb) fun _ _ => rfl
theorem Ext.frz : Ext c h w (frz S c h) ⟨h.nxt, offL S h.l⟩ w where
  os := rfl
  tape := rfl
  output := rfl
  size := Nat.le_refl _
  frame _ _ _ := rfl
  shape _ _ := rfl
  im b hb := .inl hb
  im' b hb := by
    rcases hb with hb | ⟨j, p, hp, _, he⟩
    · exact .inl hb
    · exact .inr (.inr ⟨j, p, hp, he⟩)
  nxt := Nat.le_refl _
  old i o' _ ho := ⟨o', (off_sub S ho).1, Nat.le_refl _, rfl, fun _ => rfl⟩
  new i o' ho := .inr ⟨o', (off_sub S ho).1, rfl⟩
theorem Hard.frz (hr : Rep c h w) {v v' : SV} (hh : Hard ⟨h.nxt, onL S h.l⟩ v v') {x : Value} (hv : VR c h w v x) : VP (frz S c h).Im w v' x := by
  have hr2 : Rep c ⟨h.nxt, onL S h.l⟩ w := ⟨fun i o ho => hr.lt i o (on_sub S ho).1, fun i o ho => (hr.obj i o (on_sub S ho).1).sub (fun i o ho => (on_sub S ho).1) rfl, fun i j o p ho hp he => hr.inj i j o p (on_sub S ho).1 (on_sub S hp).1 he,
    fun i o ho => hr.apart i o (on_sub S ho).1, hr.im, hr.glob⟩
  exact Hard.vp hr2 (fun b hb => .inl hb) (fun i o ho => .inr ⟨i, o, (on_sub S ho).1, (on_sub S ho).2, rfl⟩) hh (hv.sub (fun i o ho => (on_sub S ho).1) rfl)
end

/-- The named blocks of S are written no more, from this call on. -/
theorem ACall.freeze {P : Program} {f : FuncId} {args args' : List SV} {h : Heap} {R : AEnd → Heap → Prop} (S : Nat → Bool) (hh : HardL ⟨h.nxt, onL S h.l⟩ args args')
    (hp : offK S h.l fun l' => ACall P f args' ⟨h.nxt, l'⟩ R) : ACall P f args h R := by
  rw [offK_eq] at hp
  refine ⟨fun c w xs hr hs hv => ?_⟩
  refine (hp.calls (frz S c h) w xs (hr.frz S) (hs.trans hh.len) fun i v x hi hx => ?_).mono fun en w' hpost => ?_
  · obtain ⟨u, hu, huv⟩ := hh.at_ hi
    exact .pure (huv.frz S hr (hv i u x hu hx))
  · obtain ⟨c', h', r, hR, hr', hx', hen⟩ := hpost
    exact ⟨c', h', r, hR, hr', (Ext.frz S).trans hr hx', hen⟩

theorem brY {b : Bool} {p q : Prop} (h : b = true) (hp : p) : @Bool.rec (fun _ => Prop) q p b := by subst h; exact hp
theorem brN {b : Bool} {p q : Prop} (h : b = false) (hq : q) : @Bool.rec (fun _ => Prop) q p b := by subst h; exact hq
def agree : List SV → Nat → (Nat → SV) → Prop
  | [], _, _ => True
  | v :: r, j, get => v = get j ∧ LitV v ∧ agree r (j + 1) get
theorem agree_at : ∀ {l : List SV} {k : Nat} {get : Nat → SV}, agree l k get → ∀ {j : Nat} {v : SV}, l[j]? = some v → v = get (k + j) ∧ LitV v
  | [], _, _, _, j, v, hv => by simp at hv
  | u :: r, k, get, ⟨h1, h2, h3⟩, 0, v, hv => by simp at hv; subst hv; exact ⟨h1, h2⟩
  | u :: r, k, get, ⟨h1, h2, h3⟩, j + 1, v, hv => by
    have := agree_at h3 (j := j) (v := v) (by simpa using hv)
    rw [Nat.add_assoc, Nat.add_comm 1 j] at this
    exact this
/-- A whole block of plain values. -/
theorem hard_all {A : Heap} {i g sz : Nat} {cap : Option Nat} {elems : List SV} {sk : Sk} {get : Nat → SV} (ho : A.obj i = some (.vec g sz elems sk)) (h : agree elems 0 get) :
    Hard A (.sl i g sz 0 elems.length cap) (.lst sz elems.length get) :=
  .sl ho (by omega) fun j v _ hv => by
    have := agree_at h hv
    rw [Nat.zero_add, Nat.zero_add] at this
    rw [← this.1]
    exact .lit this.2

theorem ACall.frz {P : Program} {f : FuncId} {args args' : List SV} {n : Nat} {l : List (Nat × AObj)} {R : AEnd → Heap → Prop} (S : Nat → Bool) (hh : HardL ⟨n, onL S l⟩ args args')
    (hp : offK S l fun l' => ACall P f args' ⟨n, l'⟩ R) : ACall P f args ⟨n, l⟩ R := ACall.freeze S hh hp
theorem ACall.frz1 {P : Program} {f : FuncId} {v' : SV} {i g sz off len : Nat} {cap : Option Nat} {n : Nat} {l : List (Nat × AObj)} {R : AEnd → Heap → Prop}
    (h2 : Hard ⟨n, onL (fun j => Nat.beq j i) l⟩ (.sl i g sz off len cap) v') (hp : offK (fun j => Nat.beq j i) l fun l' => ACall P f [v'] ⟨n, l'⟩ R) : ACall P f [.sl i g sz off len cap] ⟨n, l⟩ R :=
  ACall.freeze _ (.cons h2 .nil) hp
theorem ACall.frz2 {P : Program} {f : FuncId} {x v' : SV} {i g sz off len : Nat} {cap : Option Nat} {n : Nat} {l : List (Nat × AObj)} {R : AEnd → Heap → Prop} (hx : LitV x)
    (h2 : Hard ⟨n, onL (fun j => Nat.beq j i) l⟩ (.sl i g sz off len cap) v') (hp : offK (fun j => Nat.beq j i) l fun l' => ACall P f [x, v'] ⟨n, l'⟩ R) : ACall P f [x, .sl i g sz off len cap] ⟨n, l⟩ R :=
  ACall.freeze _ (.cons (.lit hx) (.cons h2 .nil)) hp

/-- A value that hangs on no memory at all. -/
inductive Solid : SV → Prop
  | undef : Solid .undef
  | bool (b : Bool) : Solid (.bool b)
  | int (k : IntKind) (n : Int) : Solid (.int k n)
  | str (s : List UInt8) : Solid (.str s)
  | nilp : Solid .nilp
  | nils : Solid .nils
  | glob (g : Nat) : Solid (.glob g)
  | nilf : Solid .nilf
  | nili : Solid .nili
  | nilm : Solid .nilm
  | iface (t : TypeId) {v : SV} (h : Solid v) : Solid (.iface t v)
  | agg {l : List SV} (h : ∀ v ∈ l, Solid v) : Solid (.agg l)
  | tup {l : List SV} (h : ∀ v ∈ l, Solid v) : Solid (.tup l)
theorem Solid.vp {v : SV} (hl : Solid v) : ∀ {c : Cx} {h : Heap} {w : World} {x : Value}, VR c h w v x → ∀ (Im : Nat → Prop) (w' : World), VP Im w' v x := by
  induction hl with
  | iface t _ ih => intro c h w x hv Im w'; obtain ⟨y, rfl, hy⟩ := hv.iface_inv; exact .iface _ _ _ (ih hy _ _)
  | agg _ ih => intro c h w x hv Im w'; obtain ⟨cs, rfl, h1, h2⟩ := hv.agg_inv; exact .agg _ _ h1 fun i v x a b => ih v (List.mem_of_getElem? a) (h2 i v x a b) _ _
  | tup _ ih => intro c h w x hv Im w'; obtain ⟨cs, rfl, h1, h2⟩ := hv.tup_inv; exact .tup _ _ h1 fun i v x a b => ih v (List.mem_of_getElem? a) (h2 i v x a b) _ _
  | undef => intro c h w x _ Im w'; exact .undef _
  | bool b => intro c h w x hv Im w'; rw [hv.bool_inv]; exact .bool b
  | int k n => intro c h w x hv Im w'; rw [hv.int_inv]; exact .int k n
  | str s => intro c h w x hv Im w'; rw [hv.str_inv]; exact .str s
  | nilp => intro c h w x hv Im w'; rw [hv.nilp_inv]; exact .nilp
  | nils => intro c h w x hv Im w'; rw [hv.nils_inv]; exact .nils
  | glob g => intro c h w x hv Im w'; rw [hv.glob_inv]; exact .glob g
  | nilf => intro c h w x hv Im w'; rw [hv.nilf_inv]; exact .nilf
  | nili => intro c h w x hv Im w'; rw [hv.nili_inv]; exact .nili
  | nilm => intro c h w x hv Im w'; rw [hv.nilm_inv]; exact .nilm

/-- The named blocks of S are not written during this call. -/
theorem PCall.lend {P : Program} {f : FuncId} {args args' : List SV} {h : Heap} {v : SV} {R : AEnd → Heap → Prop} (hp : PCall P f args' v) (S : Nat → Bool) (hh : HardL ⟨h.nxt, onL S h.l⟩ args args') (hv : Solid v)
    (hR : R (.ret v) h) : ACall P f args h R := by
  refine ⟨fun c w xs hr hs hva => ?_⟩
  have hr0 : Rep (frz S c h) ⟨0, []⟩ w := ⟨(fun i o ho => by cases ho), (fun i o ho => by cases ho), (fun i j o p ho => by cases ho), (fun i o ho => by cases ho), (hr.frz S).im, (hr.frz S).glob⟩
  refine (hp.2.calls (frz S c h) w xs hr0 (hs.trans hh.len) fun i v x hi hx => ?_).mono fun en w' hpost => ?_
  · obtain ⟨u, hu, huv⟩ := hh.at_ hi
    exact .pure (huv.frz S hr (hva i u x hu hx))
  · obtain ⟨c', h', r, ⟨v', rfl, hhard⟩, hr', hx', x, rfl, hvx⟩ := hpost
    have hfr : ∀ b, b < w.heap.size → w'.heap[b]? = w.heap[b]? := fun b hb => hx'.frame b hb fun i o ho => by cases ho
    have hext : Ext c h w c h w' := ⟨hx'.os, hx'.tape, hx'.output, hx'.size, fun b hb _ => hfr b hb, hx'.shape, fun b hb => hb, fun b hb => .inl hb, Nat.le_refl _,
      fun i o _ ho => ⟨o, ho, Nat.le_refl _, rfl, fun _ => rfl⟩, fun i o ho => .inr ⟨o, ho, rfl⟩⟩
    have hvp := hhard.vp hr' (Im := fun _ => True) (fun _ _ => trivial) (fun _ _ _ => trivial) hvx
    exact ⟨c, h, .ret v, hR, ⟨hr.lt, fun i o ho => (hr.obj i o ho).mono hr hext (hfr _ (hr.obj i o ho).lt), hr.inj, hr.apart, fun b hb => Nat.lt_of_lt_of_le (hr.im b hb) hx'.size, hr.globx hext⟩, hext, x, rfl,
      .pure (hv.vp (c := c) (h := h) (w := w') (.pure (hv.vp (c := ⟨c.β, fun _ => True⟩) (h := h) (.pure hvp) c.Im w')) c.Im w')⟩
end Ab
namespace Ab
set_option linter.unusedVariables false
set_option linter.unusedSimpArgs false
open Go Go.RowKit

theorem globOk_none {Im : Nat → Prop} {w : World} (h : ∀ g, globTab g = []) (h2 : globIf = [] := by rfl) : GlobOk Im w := ⟨fun g v hg => (by unfold globSV at hg; rw [h g] at hg; cases hg), fun g hg => (by rw [h2] at hg; cases hg)⟩
theorem PCall.below {P : Program} {f : FuncId} {args : List SV} {v : SV} (hp : PCall P f args v) {w : World} {xs : Array Value} (Im : Nat → Prop) (him : ∀ b, Im b → b < w.heap.size) (hg : GlobOk Im w) (hs : xs.size = args.length)
    (hv : ∀ (i : Nat) (u : SV) (x : Value), args[i]? = some u → xs[i]? = some x → VP Im w u x) :
    Calls P f xs w fun e w' => (∃ x, e = .returned x ∧ VP (fun _ => True) w' v x) ∧ Below w.heap.size w w' := by
  have hr0 : Rep ⟨fun _ => 0, Im⟩ ⟨0, []⟩ w := ⟨(fun i o ho => by cases ho), (fun i o ho => by cases ho), (fun i j o p ho => by cases ho), (fun i o ho => by cases ho), him, hg⟩
  refine (hp.2.calls ⟨fun _ => 0, Im⟩ w xs hr0 hs fun i u x hu hx => .pure (hv i u x hu hx)).mono fun en w' hpost => ?_
  obtain ⟨c', h', r, ⟨v', rfl, hhard⟩, hr', hx', x, rfl, hvx⟩ := hpost
  refine ⟨⟨x, rfl, hhard.vp hr' (fun _ _ => trivial) (fun _ _ _ => trivial) hvx⟩, hx'.os, hx'.tape, hx'.output, hx'.size, fun b hb => hx'.frame b hb fun i o ho => by cases ho⟩

/-- A law's run: it comes to 'true'. -/
theorem PCall.holds {P : Program} {f : FuncId} {args : List SV} (hp : PCall P f args (.bool true)) {w : World} {xs : Array Value} (Im : Nat → Prop) (him : ∀ b, Im b → b < w.heap.size) (hg : GlobOk Im w) (hs : xs.size = args.length)
    (hv : ∀ (i : Nat) (u : SV) (x : Value), args[i]? = some u → xs[i]? = some x → VP Im w u x) :
    Calls P f xs w fun e w' => e = .returned (.bool true) ∧ Below w.heap.size w w' := by
  refine (hp.below Im him hg hs hv).mono fun e w' ⟨⟨x, he, hx⟩, hb⟩ => ?_
  cases hx
  exact ⟨he, hb⟩

section
variable {H : Type} {enc : TypeId × Value → H} {P : Program}
theorem post_kept {f : Func} {s : ChangeSpec} {apart fresh handsOn : Bool} {W W' : World} {args : Array Value} {v : Value} {ds gs : List (DataW H)} {before pa pv : List MemPlace}
    (hW : DataW.Whole enc P f.params.toList s.vars apart W args.toList ds gs before)
    (hres : ∀ (b : Nat) (sp : Nat → Bool) (hd : Bool), DataW.TrodAll enc P W' b sp hd f.resultTypes.toList (v.resultList f.resultTypes.size) (s.fn H (ds ++ gs)).results [])
    (hargs : DataW.TrodAll enc P W' 0 (fun b => decide (b < W.heap.size)) true f.params.toList args.toList (s.fn H (ds ++ gs)).args pa)
    (hvars : DataW.TrodVars enc P W' (fun b => decide (b < W.heap.size)) s.vars (s.fn H (ds ++ gs)).vars pv)
    (hb : Below W.heap.size W W') : s.post enc P f apart fresh handsOn false W args v W' :=
  ⟨ds, gs, before, [], pa, pv, hW, hres _ _ _, hargs, hvars, hb.frame _, fun h => by cases h⟩
end
end Ab
