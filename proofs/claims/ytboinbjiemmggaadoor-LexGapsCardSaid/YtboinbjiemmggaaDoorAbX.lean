/- Regions, code, loops, calls: the symbolic run of a function's code is sound. -/
import Derived.Test.YtboinbjiemmggaaDoorAbZ
namespace Ab
set_option linter.unusedVariables false
set_option linter.unusedSimpArgs false
open Go

theorem guard_cases {n : Nat} {ops : Array Oper} {pre : Bool} {P : Program} {o : Oper} {c : Cx} {h : Heap} {w : World} {e : Env} {a : Act} {run skip : Env → Prop} (he : ER c h w e a.tmps) (hn : a.tmps.size = n)
    (hp : guardK e (cOper P n ops pre o).guard run skip) (hrun : ∀ e, ER c h w e a.tmps → run e → Region.wanted o (yielded ops a.tmps) = true → (∀ d, o.dst = some d → d < n) → (cOper P n ops pre o).dst = o.dst → (cOper P n ops pre o).op = cOp P o.op → False)
    (hskip : ∀ e, ER c h w e a.tmps → skip e → Region.wanted o (yielded ops a.tmps) = false → (∀ d, o.dst = some d → d < n) → (cOper P n ops pre o).dst = o.dst → False)
    (hbad : run e → (cOper P n ops pre o).op = .bad → False) : False := by
  unfold cOper at hp hrun hskip hbad
  dsimp only at hp hrun hskip hbad
  cases hd : dstOk n o
  · rw [hd] at hp hbad
    simp only [cond_false, guardK] at hp hbad
    exact hbad hp (by first | rfl | trivial)
  · have hlt : ∀ d, o.dst = some d → d < n := fun d hdd => by
      unfold dstOk at hd
      rw [hdd] at hd
      exact Nat.lt_of_succ_le (by simpa [Nat.blt] using hd)
    rw [hd] at hp hrun hskip hbad
    simp only [cond_true] at hp hrun hskip hbad
    cases hg : o.guard with
    | none =>
      rw [hg] at hp hrun
      simp only [guardK] at hp
      exact hrun e he hp (by simp [Region.wanted, hg]) hlt (by first | rfl | trivial) (by first | rfl | trivial)
    | some gw =>
      obtain ⟨j, want⟩ := gw
      rw [hg] at hp hrun hskip hbad
      dsimp only at hp hrun hskip hbad
      cases ht : (ops[j]?).bind (·.dst) with
      | none =>
        rw [ht] at hp hbad
        simp only [guardK] at hp hbad
        exact hbad hp (by first | rfl | trivial)
      | some t =>
        rw [ht] at hp hrun hskip hbad
        dsimp only at hp hrun hskip hbad
        cases hb : Nat.blt t n
        · rw [hb] at hp hbad
          simp only [cond_false, guardK] at hp hbad
          exact hbad hp (by first | rfl | trivial)
        · have htn : t < n := by
            exact Nat.lt_of_succ_le (by simpa [Nat.blt] using hb)
          rw [hb] at hp hrun hskip hbad
          simp only [cond_true, guardK, getK_eq] at hp hrun hskip
          have hv := he t
          have hget : a.tmps[t]? = some (a.tmps.getD t undef) := by
            rw [Array.getD_eq_getD_getElem?]
            have : t < a.tmps.size := by rw [hn]; exact htn
            simp [this]
          split at hp
          · rename_i x hx
            rw [hx] at hv
            have hv := hv.bool_inv
            have hy : yielded ops a.tmps j = some x := by
              unfold yielded
              rw [ht, Option.bind_some, hget, hv]
            have hput : ∀ b, b = x → ER c h w (Env.put e t (.bool b)) a.tmps := by
              rintro b rfl u
              rw [get_put]
              by_cases hu : u = t
              · subst hu; rw [if_pos rfl, hv]; exact .bool
              · rw [if_neg hu]; exact he u
            have hw : Region.wanted o (yielded ops a.tmps) = (x == want) := by
              simp [Region.wanted, hg, hy]
            cases x <;> cases want <;> simp only [putK_eq] at hp
            · exact hrun _ (hput _ rfl) hp (by rw [hw]; rfl) hlt (by first | rfl | trivial) (by first | rfl | trivial)
            · exact hskip _ (hput _ rfl) hp (by rw [hw]; rfl) hlt (by first | rfl | trivial)
            · exact hskip _ (hput _ rfl) hp (by rw [hw]; rfl) hlt (by first | rfl | trivial)
            · exact hrun _ (hput _ rfl) hp (by rw [hw]; rfl) hlt (by first | rfl | trivial) (by first | rfl | trivial)
          · rename_i l hx
            rw [hx] at hv
            obtain ⟨cs, hcs, _⟩ := hv.tup_inv
            have hy : yielded ops a.tmps j = none := by
              unfold yielded
              rw [ht, Option.bind_some, hget, hcs]
            exact hskip _ he hp (by simp [Region.wanted, hg, hy]) hlt (by first | rfl | trivial)
          · exact hp.elim

/-- One operation of a region, guard and all. -/
theorem oper_wp {P : Program} {Γ : CallR} (hΓ : Γ.Ok P) {n : Nat} {ops : Array Oper} {pre : Bool} {Q : Exit → Act → World → Prop} {i : Nat} {o : Oper} (hi : ops[i]? = some o) {c : Cx} {h : Heap} {w : World} {e : Env} {a : Act} {K : Act → World → Prop}
    (hr : Rep c h w) (he : ER c h w e a.tmps) (hn : a.tmps.size = n) {k : Env → Heap → Prop} {kp : SV → Env → Heap → Prop}
    (hp : guardK e (cOper P n ops pre o).guard
      (fun e => aop P Γ (cOper P n ops pre o).op e h (fun v h' => putD e (cOper P n ops pre o).dst v fun e' => k e' h') (fun v h' => kp v e h'))
      (fun e => putD e (cOper P n ops pre o).dst (.tup []) fun e' => k e' h))
    (hk : ∀ e' h' c' a' w', k e' h' → Rep c' h' w' → Ext c h w c' h' w' → ER c' h' w' e' a'.tmps → a'.tmps.size = n → a'.defers = a.defers → K a' w')
    (hkp : ∀ v x e' h' c' w', kp v e' h' → Rep c' h' w' → Ext c h w c' h' w' → ER c' h' w' e' a.tmps → VR c' h' w' v x → Q (.panic [{ v := x, recovered := false }]) a w') :
    wpOp P ops Q i K a w := by
  refine Classical.byContradiction fun hneg => guard_cases he hn hp (fun e he hp hw hlt hdst hop => hneg ?_) (fun e he hp hw hlt hdst => hneg ?_) (fun hp hb => by rw [hb] at hp; exact hp)
  · unfold wpOp
    rw [hi]
    dsimp only
    rw [if_pos hw]
    rw [hop, hdst] at hp
    refine .inl (op_wp hΓ hr he hp (fun v x h' c' w' hkk hr' hx hv => ?_) (fun v x h' c' w' hkk hr' hx hv => hkp v x e h' c' w' hkk hr' hx (he.mono hr hx) hv))
    rw [putD_eq] at hkk
    exact hk _ h' c' _ w' hkk hr' hx ((he.mono hr hx).put (fun t ht => by rw [hn]; exact hlt t ht) hv) (by rw [put_size]; exact hn) (put_defers _ _ _)
  · unfold wpOp
    rw [hi]
    dsimp only
    rw [if_neg (by rw [hw]; decide)]
    rw [hdst, putD_eq] at hp
    exact hk _ h c _ w hp hr .refl (he.put (fun t ht => by rw [hn]; exact hlt t ht) (.pure (.tup _ _ rfl fun i v x hv => by simp at hv))) (by rw [put_size]; exact hn) (put_defers _ _ _)

theorem aops_sound {P : Program} {Γ : CallR} (hΓ : Γ.Ok P) {n : Nat} {ops : Array Oper} {Q : Exit → Act → World → Prop} {k : Env → Heap → Prop} {kp : SV → Env → Heap → Prop} :
    ∀ (m j : Nat) (c : Cx) (h : Heap) (w : World) (e : Env) (a : Act), j + m = ops.size → aops P Γ ((ops.toList.drop j).map (cOper P n ops false)) e h k kp → Rep c h w → ER c h w e a.tmps → a.tmps.size = n →
    (∀ e' h' c' a' w', k e' h' → Rep c' h' w' → Ext c h w c' h' w' → ER c' h' w' e' a'.tmps → a'.tmps.size = n → a'.defers = a.defers → Q .normal a' w') →
    (∀ v x e' h' c' a' w', kp v e' h' → Rep c' h' w' → Ext c h w c' h' w' → ER c' h' w' e' a'.tmps → a'.tmps.size = n → a'.defers = a.defers → VR c' h' w' v x → Q (.panic [{ v := x, recovered := false }]) a' w') →
    wpOps P ops Q (List.range' j m) a w
  | 0, j, c, h, w, e, a, hj, hp, hr, he, hn, hk, hkp => by
    have : ops.toList.drop j = [] := List.drop_eq_nil_iff.2 (by simp; omega)
    rw [this] at hp
    exact hk e h c a w hp hr .refl he hn rfl
  | m+1, j, c, h, w, e, a, hj, hp, hr, he, hn, hk, hkp => by
    have hlt : j < ops.size := by omega
    have hd : ops.toList.drop j = ops[j] :: ops.toList.drop (j + 1) := by
      rw [List.drop_eq_getElem_cons (by simpa using hlt)]
      simp
    rw [hd, List.map_cons] at hp
    rw [List.range'_succ, wpOps_cons]
    refine oper_wp hΓ (k := fun e' h' => aops P Γ ((ops.toList.drop (j + 1)).map (cOper P n ops false)) e' h' k kp) (kp := kp) (Array.getElem?_eq_getElem hlt) hr he hn hp (fun e' h' c' a' w' hkk hr' hx he' hn' hdf => ?_) (fun v x e' h' c' w' hkk hr' hx he' hv => hkp v x e' h' c' a w' hkk hr' hx he' hn rfl hv)
    refine aops_sound hΓ m (j + 1) c' h' w' e' a' (by omega) hkk hr' he' hn' (fun e2 h2 c2 a2 w2 hk2 hr2 hx2 he2 hn2 hdf2 => ?_) (fun v x e2 h2 c2 a2 w2 hk2 hr2 hx2 he2 hn2 hdf2 hv => ?_)
    · exact hk e2 h2 c2 a2 w2 hk2 hr2 (hx.trans hr hx2) he2 hn2 (hdf2.trans hdf)
    · exact hkp v x e2 h2 c2 a2 w2 hk2 hr2 (hx.trans hr hx2) he2 hn2 (hdf2.trans hdf) hv

/-! ## Code -/
def erase : ACode → ACode
  | .skip => .skip
  | .region ops _ => .region ops []
  | .dregion ops _ _ => .dregion ops [] []
  | .seq a b => .seq (erase a) (erase b)
  | .cond c a b => .cond c (erase a) (erase b)
  | .block id b => .block id (erase b)
  | .loop b => .loop (erase b)
  | .exit id => .exit id
  | .ret => .ret
  | .bad => .bad

def ExR (c : Cx) (h : Heap) (w : World) : Exit → AExit → Prop
  | .normal, .normal => True
  | .exit i, .exit j => i = j
  | .ret, .ret => True
  | .panic ch, .panic v => ∃ x, ch = [{ v := x, recovered := false }] ∧ VR c h w v x
  | _, _ => False

def Post (c : Cx) (h : Heap) (w : World) (Q : AExit → Env → Heap → Prop) (n : Nat) (ds : List Deferred) (ex : Exit) (a' : Act) (w' : World) : Prop :=
  ∃ c' h' e' x, Q x e' h' ∧ Rep c' h' w' ∧ Ext c h w c' h' w' ∧ ER c' h' w' e' a'.tmps ∧ a'.tmps.size = n ∧ a'.defers = ds ∧ ExR c' h' w' ex x

/-- What the code does, from symbolic memory on. -/
def AWP (P : Program) (n : Nat) (code : Code) (Q : AExit → Env → Heap → Prop) (e : Env) (h : Heap) : Prop :=
  ∀ (c : Cx) (w : World) (a : Act), Rep c h w → ER c h w e a.tmps → a.tmps.size = n → code.wp P (Post c h w Q n a.defers) a w

/-- The orders that the code tells are the regions' own. -/
def ordsOk : ACode → Bool
  | .dregion ops ord _ => ordOk ops ord
  | .seq a b | .cond _ a b => ordsOk a && ordsOk b
  | .block _ b | .loop b => ordsOk b
  | _ => true

structure ALoop (P : Program) (b : ACode) (Q : AExit → Env → Heap → Prop) (e : Env) (h : Heap) : Prop where
  run : ∀ n code, P.follows .mixedOrders = true → ordsOk b = true → erase b = cCode P n code → AWP P n (.loop code) Q e h

def seqQ (k : Env → Heap → Prop) (Q : AExit → Env → Heap → Prop) : AExit → Env → Heap → Prop
  | .normal, e, h => k e h
  | x, e, h => Q x e h
def blockQ (id : Nat) (Q : AExit → Env → Heap → Prop) : AExit → Env → Heap → Prop
  | .exit j, e, h => @Bool.rec (fun _ => Prop) (Q (.exit j) e h) (Q .normal e h) (Nat.beq j id)
  | x, e, h => Q x e h
def condK (c : AOpd) (e : Env) (h : Heap) (a b : Env → Heap → Prop) : Prop := match c with
    | .tmp t => Env.getK e t fun c => match c with
      | .bool x => @Bool.rec (fun _ => Prop) (Env.putK e t (.bool false) fun e => b e h) (Env.putK e t (.bool true) fun e => a e h) x
      | _ => False
    | .const c => match c with
      | .bool x => @Bool.rec (fun _ => Prop) (b e h) (a e h) x
      | _ => False
abbrev LoopR := ACode → (AExit → Env → Heap → Prop) → Env → Heap → Prop
def awpC (P : Program) (Γ : CallR) (Λ : LoopR) (code : ACode) : (AExit → Env → Heap → Prop) → Env → Heap → Prop :=
  @ACode.rec (fun _ => (AExit → Env → Heap → Prop) → Env → Heap → Prop)
    (fun Q e h => Q .normal e h)
    (fun ops fg Q e h => aops P Γ ops e h (fun e' h' => Env.dropsK fg e' fun e'' => Q .normal e'' h') (fun v e' h' => Q (.panic v) e' h'))
    (fun ops ord fg Q e h => aopsD P Γ ops ord e h (fun e' h' => Env.dropsK fg e' fun e'' => Q .normal e'' h') (fun v e' h' => Q (.panic v) e' h'))
    (fun _ _ a b Q e h => a (seqQ (b Q) Q) e h)
    (fun c _ _ a b Q e h => condK c e h (a Q) (b Q))
    (fun id _ b Q e h => b (blockQ id Q) e h)
    (fun b _ Q e h => Λ b Q e h)
    (fun id Q e h => Q (.exit id) e h)
    (fun Q e h => Q .ret e h)
    (fun _ _ _ => False) code
def awp (P : Program) (code : ACode) : (AExit → Env → Heap → Prop) → Env → Heap → Prop := awpC P (aCall P) (ALoop P) code

section
variable {P : Program} {Γ : CallR} {n : Nat}

theorem Post.of {c : Cx} {h : Heap} {w : World} {Q : AExit → Env → Heap → Prop} {ds : List Deferred} {ex : Exit} {a' : Act} {w' : World} {c1 : Cx} {h1 : Heap} {w1 : World} (hr : Rep c h w) (hx : Ext c h w c1 h1 w1)
    (hp : Post c1 h1 w1 Q n ds ex a' w') : Post c h w Q n ds ex a' w' := by
  obtain ⟨c', h', e', x, hq, hr', hx', he', hn', hd', hex⟩ := hp
  exact ⟨c', h', e', x, hq, hr', hx.trans hr hx', he', hn', hd', hex⟩

theorem awpC_sound {Λ : LoopR} (hΓ : Γ.Ok P) (hΛ : ∀ b Q e h, Λ b Q e h → ALoop P b Q e h) (hm : P.follows .mixedOrders = true) : ∀ (code : Code) (ac : ACode) (Q : AExit → Env → Heap → Prop) (e : Env) (h : Heap), ordsOk ac = true → erase ac = cCode P n code → awpC P Γ Λ ac Q e h → AWP P n code Q e h
  | .skip, ac, Q, e, h, ho, hc, hp => by
    cases ac <;> simp only [erase, cCode] at hc <;> try cases hc
    intro c w a hr he hn
    exact wp_skip ⟨c, h, e, .normal, hp, hr, .refl, he, hn, rfl, trivial⟩
  | .region id ops false, ac, Q, e, h, ho, hc, hp => by
    simp only [cCode, cond_false] at hc
    cases ac <;> simp only [erase] at hc <;> try cases hc
    intro c w a hr he hn
    refine wp_region ?_
    rw [List.range_eq_range']
    refine aops_sound hΓ ops.size 0 c h w e a (by simp) (by rw [List.drop_zero]; exact hp) hr he hn (fun e' h' c' a' w' hk hr' hx he' hn' hd' => ?_) (fun v x e' h' c' a' w' hk hr' hx he' hn' hd' hv => ?_)
    · rw [dropsK_eq] at hk
      exact ⟨c', h', _, .normal, hk, hr', hx, he'.drops _, hn', hd', trivial⟩
    · exact ⟨c', h', e', .panic v, hk, hr', hx, he', hn', hd', x, rfl, hv⟩
  | .region id ops true, ac, Q, e, h, ho, hc, hp => by
    simp only [cCode, cond_true] at hc
    cases ac <;> simp only [erase] at hc <;> try cases hc
    intro c w a hr he hn
    refine dregion_wp hΓ hm ho hp hr he hn (fun e' h' c' a' w' hk hr' hx he' hn' hd' => ?_) (fun v x h' c' a' w' hk hr' hx hn' hd' hv => ?_)
    · rw [dropsK_eq] at hk
      exact ⟨c', h', _, .normal, hk, hr', hx, he'.drops _, hn', hd', trivial⟩
    · exact ⟨c', h', [], .panic v, hk, hr', hx, fun t => .undef, hn', hd', x, rfl, hv⟩
  | .seq x y, ac, Q, e, h, ho, hc, hp => by
    cases ac <;> simp only [erase, cCode, ACode.seq.injEq, reduceCtorEq] at hc
    rename_i ax ay
    simp only [ordsOk, Bool.and_eq_true] at ho
    intro c w a hr he hn
    refine wp_seq (wp_mono (awpC_sound hΓ hΛ hm x ax _ e h ho.1 hc.1 hp c w a hr he hn) fun ex a' w' hpost => ?_)
    obtain ⟨c', h', e', xx, hq, hr', hx', he', hn', hd', hex⟩ := hpost
    cases ex with
    | normal =>
      cases xx <;> try exact hex.elim
      simp only [Exit.then]
      have := awpC_sound hΓ hΛ hm y ay Q e' h' ho.2 hc.2 hq c' w' a' hr' he' hn'
      rw [hd'] at this
      exact wp_mono this fun _ _ _ hp2 => hp2.of hr hx'
    | exit i => cases xx <;> first | exact hex.elim | exact ⟨c', h', e', _, hq, hr', hx', he', hn', hd', hex⟩
    | goto l => cases xx <;> exact hex.elim
    | ret => cases xx <;> first | exact hex.elim | exact ⟨c', h', e', _, hq, hr', hx', he', hn', hd', hex⟩
    | panic ch => cases xx <;> first | exact hex.elim | exact ⟨c', h', e', _, hq, hr', hx', he', hn', hd', hex⟩
    | outgrown => cases xx <;> exact hex.elim
  | .cond cc x y, ac, Q, e, h, ho, hc, hp => by
    cases ac <;> simp only [erase, cCode, ACode.cond.injEq, reduceCtorEq] at hc
    rename_i ac ax ay
    obtain ⟨hcc, hcx, hcy⟩ := hc
    simp only [ordsOk, Bool.and_eq_true] at ho
    intro c w a hr he hn
    have hv := he.ev cc
    rw [← hcc] at hv
    cases ac with
    | tmp t =>
      replace hp : condK (.tmp t) e h (awpC P Γ Λ ax Q) (awpC P Γ Λ ay Q) := hp
      simp only [condK, getK_eq] at hp
      have hev : (AOpd.tmp t).ev e = Env.get e t := rfl
      rw [hev] at hv
      split at hp
      · rename_i b hb
        rw [hb] at hv
        have hvb := hv.bool_inv
        refine wp_cond hvb ?_
        have hput : ∀ b', b' = b → ER c h w (Env.put e t (.bool b')) a.tmps := by
          rintro b' rfl u
          rw [get_put]
          by_cases hu : u = t
          · subst hu
            rw [if_pos rfl]
            have := he u
            rw [hb] at this
            exact this
          · rw [if_neg hu]; exact he u
        cases b <;> simp only [putK_eq] at hp
        · exact awpC_sound hΓ hΛ hm y ay Q _ h ho.2 hcy hp c w a hr (hput _ rfl) hn
        · exact awpC_sound hΓ hΛ hm x ax Q _ h ho.1 hcx hp c w a hr (hput _ rfl) hn
      · exact hp.elim
    | const v =>
      replace hp : condK (.const v) e h (awpC P Γ Λ ax Q) (awpC P Γ Λ ay Q) := hp
      simp only [condK] at hp
      have hev : (AOpd.const v).ev e = v := rfl
      rw [hev] at hv
      split at hp
      · have hvb := hv.bool_inv
        refine wp_cond hvb ?_
        rename_i b
        cases b
        · exact awpC_sound hΓ hΛ hm y ay Q _ h ho.2 hcy hp c w a hr he hn
        · exact awpC_sound hΓ hΛ hm x ax Q _ h ho.1 hcx hp c w a hr he hn
      · exact hp.elim
  | .block id b, ac, Q, e, h, ho, hc, hp => by
    cases ac <;> simp only [erase, cCode, ACode.block.injEq, reduceCtorEq] at hc
    rename_i aid ab
    obtain ⟨rfl, hc⟩ := hc
    intro c w a hr he hn
    refine wp_block (wp_mono (awpC_sound hΓ hΛ hm b ab _ e h ho hc hp c w a hr he hn) fun ex a' w' hpost => ?_)
    obtain ⟨c', h', e', xx, hq, hr', hx', he', hn', hd', hex⟩ := hpost
    cases ex with
    | normal => cases xx <;> first | exact hex.elim | exact ⟨c', h', e', _, hq, hr', hx', he', hn', hd', hex⟩
    | exit i =>
      cases xx <;> try exact hex.elim
      rename_i j
      have hij : i = j := hex
      subst hij
      simp only [Exit.inBlock]
      rcases beq_cases i aid with ⟨hb, hb'⟩ | ⟨hb, hb'⟩
      · rw [if_pos hb']
        simp only [blockQ, hb] at hq
        exact ⟨c', h', e', .normal, hq, hr', hx', he', hn', hd', trivial⟩
      · rw [if_neg hb']
        simp only [blockQ, hb] at hq
        exact ⟨c', h', e', .exit i, hq, hr', hx', he', hn', hd', rfl⟩
    | goto l => cases xx <;> exact hex.elim
    | ret => cases xx <;> first | exact hex.elim | exact ⟨c', h', e', _, hq, hr', hx', he', hn', hd', hex⟩
    | panic ch => cases xx <;> first | exact hex.elim | exact ⟨c', h', e', _, hq, hr', hx', he', hn', hd', hex⟩
    | outgrown => cases xx <;> exact hex.elim
  | .loop b, ac, Q, e, h, ho, hc, hp => by
    cases ac <;> simp only [erase, cCode, ACode.loop.injEq, reduceCtorEq] at hc
    exact (hΛ _ _ _ _ hp).run n b hm ho hc
  | .exit id, ac, Q, e, h, ho, hc, hp => by
    cases ac <;> simp only [erase, cCode, ACode.exit.injEq, reduceCtorEq] at hc
    subst hc
    intro c w a hr he hn
    exact wp_exit ⟨c, h, e, .exit _, hp, hr, .refl, he, hn, rfl, rfl⟩
  | .ret, ac, Q, e, h, ho, hc, hp => by
    cases ac <;> simp only [erase, cCode, reduceCtorEq] at hc
    intro c w a hr he hn
    exact wp_ret ⟨c, h, e, .ret, hp, hr, .refl, he, hn, rfl, trivial⟩
  | .rangeFunc _ _ _ _, ac, Q, e, h, ho, hc, hp => by
    cases ac <;> simp only [erase, cCode, reduceCtorEq] at hc
    exact hp.elim
  | .scope _, ac, Q, e, h, ho, hc, hp => by
    cases ac <;> simp only [erase, cCode, reduceCtorEq] at hc
    exact hp.elim
  | .label _, ac, Q, e, h, ho, hc, hp => by
    cases ac <;> simp only [erase, cCode, reduceCtorEq] at hc
    exact hp.elim
  | .goto _, ac, Q, e, h, ho, hc, hp => by
    cases ac <;> simp only [erase, cCode, reduceCtorEq] at hc
    exact hp.elim
  | .refuse _, ac, Q, e, h, ho, hc, hp => by
    cases ac <;> simp only [erase, cCode, reduceCtorEq] at hc
    exact hp.elim

theorem awp_sound (hm : P.follows .mixedOrders = true) (code : Code) (ac : ACode) (Q : AExit → Env → Heap → Prop) (e : Env) (h : Heap) (ho : ordsOk ac = true) (hc : erase ac = cCode P n code) (hp : awp P ac Q e h) : AWP P n code Q e h :=
  awpC_sound (Γ := aCall P) (Λ := ALoop P) aCall_ok (fun _ _ _ _ h => h) hm code ac Q e h ho hc hp
end
end Ab
