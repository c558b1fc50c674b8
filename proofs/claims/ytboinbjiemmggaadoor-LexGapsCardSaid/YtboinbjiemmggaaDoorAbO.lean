/- Every operation does what the symbolic run says of it; and regions, one operation behind the other. -/
import Derived.Test.YtboinbjiemmggaaDoorAbW
namespace Ab
set_option linter.unusedVariables false
set_option linter.unusedSimpArgs false
open Go
section
variable {P : Program} {Γ : CallR} {c : Cx} {h : Heap} {w : World} {e : Env} {a : Act} {o : Oper} {k kp : SV → Heap → Prop} {next : Act → World → Prop} {Q : Exit → Act → World → Prop}

theorem Does.wp (hd : Does P c h w a o k) (hk : ∀ v x h' c' w', k v h' → Rep c' h' w' → Ext c h w c' h' w' → VR c' h' w' v x → next (a.put o.dst x) w') : o.wp P a w next Q := by
  obtain ⟨v, x, h', c', w', hkk, hrun, hr, hx, hv⟩ := hd
  unfold Oper.wp
  rcases hrun with hrun | ⟨hrun, rfl⟩
  · rw [hrun, Oper.upon_value]; exact hk v x h' c' w' hkk hr hx hv
  · rw [hrun, Oper.upon_skip]; exact hk v _ h' c' w' hkk hr hx hv

theorem callFunc_run {f : FuncId} (hc : callable P f = true) (args : Array Value) : (callFunc f args).run P w = .ok (.enter f args) w := by
  unfold callable at hc
  split at hc
  · rename_i fn hf
    simp only [Bool.and_eq_true, bne_iff_ne, ne_eq] at hc
    obtain ⟨hb, hn⟩ := hc
    have hnone : fn.body.isNone = false := by cases hbb : fn.body <;> simp_all
    have hn' : (fn.name == "runtime.NumGoroutine") = false := by simpa using hn
    unfold callFunc
    rw [Sem.run_bind, run_program, Result.andThen_ok, hf]
    dsimp only
    rw [if_neg (by rw [hn']; decide), if_neg (by rw [hnone]; decide)]
    rfl
  · cases hc

theorem enter_wp {f : FuncId} {args : List SV} {xs : Array Value} (hr : Rep c h w) (hrun : (execOp a.eval o).run P w = .ok (.enter f xs) w) (hs : xs.size = args.length)
    (hv : ∀ (i : Nat) (v : SV) (x : Value), args[i]? = some v → xs[i]? = some x → VR c h w v x)
    (hp : ACall P f args h fun r h' => match r with | .ret v => k v h' | .pan v => kp v h')
    (hk : ∀ v x h' c' w', k v h' → Rep c' h' w' → Ext c h w c' h' w' → VR c' h' w' v x → next (a.put o.dst x) w')
    (hkp : ∀ v x h' c' w', kp v h' → Rep c' h' w' → Ext c h w c' h' w' → VR c' h' w' v x → Q (.panic [{ v := x, recovered := false }]) a w') : o.wp P a w next Q := by
  unfold Oper.wp
  rw [hrun, Oper.upon_enter]
  refine (hp.calls c w xs hr hs hv).mono fun en w' hpost => ?_
  obtain ⟨c', h', r, hkk, hr', hx', hres⟩ := hpost
  cases r with
  | ret v =>
    obtain ⟨x, rfl, hvx⟩ := hres
    exact hk v x h' c' w' hkk hr' hx' hvx
  | pan v =>
    obtain ⟨x, rfl, hvx⟩ := hres
    exact hkp v x h' c' w' hkk hr' hx' hvx

theorem panic_wp (hr : Rep c h w) {x : Operand} (he : ER c h w e a.tmps) (hrun : ∀ t y, a.eval x = .iface t y → (execOp a.eval o).run P w = .halt (.panic (.iface t y)) w)
    (hp : aop P Γ (.panic (cOpd x)) e h k kp)
    (hkp : ∀ v x h' c' w', kp v h' → Rep c' h' w' → Ext c h w c' h' w' → VR c' h' w' v x → Q (.panic [{ v := x, recovered := false }]) a w') : o.wp P a w next Q := by
  simp only [aop, evK_eq] at hp
  have hx := he.ev x
  split at hp
  · rename_i t v h1
    rw [h1] at hx
    obtain ⟨y, hy, hvy⟩ := hx.iface_inv
    unfold Oper.wp
    rw [hrun t y hy, Oper.upon_panic]
    exact hkp _ _ h c w hp hr .refl (.iface _ _ _ hvy)
  · exact hp.elim

theorem op_wp (hΓ : Γ.Ok P) (hr : Rep c h w) (he : ER c h w e a.tmps) (hp : aop P Γ (cOp P o.op) e h k kp)
    (hk : ∀ v x h' c' w', k v h' → Rep c' h' w' → Ext c h w c' h' w' → VR c' h' w' v x → next (a.put o.dst x) w')
    (hkp : ∀ v x h' c' w', kp v h' → Rep c' h' w' → Ext c h w c' h' w' → VR c' h' w' v x → Q (.panic [{ v := x, recovered := false }]) a w') : o.wp P a w next Q := by
  cases hop : o.op with
  | move x => rw [hop] at hp; exact ((sees_mov he (.inl hop) hp).does hr).wp hk
  | assign x => rw [hop] at hp; exact ((sees_mov he (.inr hop) hp).does hr).wp hk
  | pick x y z => rw [hop] at hp; exact ((sees_pick he hop hp).does hr).wp hk
  | alloc t =>
    rw [hop] at hp
    simp only [cOp] at hp
    split at hp
    · rename_i i hi
      split at hp
      · rename_i z hz
        cases hcond : rowT P t
        · rw [hcond] at hp; exact (does_alloc hr hop hi hz hp).wp hk
        · rw [hcond] at hp; exact (does_allocR hr hop hi hz hp).wp hk
      · exact hp.elim
    · exact hp.elim
  | box t x =>
    rw [hop] at hp
    simp only [cOp] at hp
    split at hp
    · rename_i i hi
      cases hcond : rowT P t
      · rw [hcond] at hp; exact (does_box hr he hop hi hp).wp hk
      · rw [hcond] at hp; exact (does_boxR hr he hop hi hp).wp hk
    · exact hp.elim
  | build t ps =>
    rw [hop] at hp
    simp only [cOp] at hp
    split at hp
    · rename_i fs i hu hi
      split at hp
      · rename_i z hz
        cases hcond : (!((ofVal 4 z).known && fs.toList.all fun f => (P.info? f.type).isSome))
        · rw [hcond] at hp
          simp only [Bool.not_eq_false', Bool.and_eq_true] at hcond
          simp only [cond_false] at hp
          split at hp
          · rename_i l hl; exact ((sees_build he hop hu hi hz hcond.1 hcond.2 hl hp).does hr).wp hk
          · exact hp.elim
        · rw [hcond] at hp; exact hp.elim
      · exact hp.elim
    · exact hp.elim
  | buildSlice t n ps =>
    rw [hop] at hp
    simp only [cOp] at hp
    split at hp
    · rename_i el hu
      split at hp
      · rename_i i hi
        split at hp
        · rename_i z hz
          cases hcond : (Nat.ble (n * i.size) 16777216 && (Nat.beq (ofVal 4 z).cells.length i.size && (ofVal 4 z).known))
          · rw [hcond] at hp; exact hp.elim
          · rw [hcond] at hp
            simp only [Bool.and_eq_true] at hcond
            exact (does_buildSlice hr he hop hu hi hz (Nat.le_of_ble_eq_true hcond.1) (Nat.eq_of_beq_eq_true hcond.2.1) hcond.2.2 hp).wp hk
        · exact hp.elim
      · exact hp.elim
    · exact hp.elim
  | load t x => exact ((sees_load hr he hop hp).does hr).wp hk
  | store t x y =>
    rw [hop] at hp
    simp only [cOp] at hp
    split at hp
    · rename_i i hi; exact (does_store hr he hop hi hp).wp hk
    · exact hp.elim
  | binOp op t x y yt =>
    rw [hop] at hp
    simp only [cOp] at hp
    split at hp
    · exact ((sees_bin he hop hp).does hr).wp hk
    · exact ((sees_bin he hop hp).does hr).wp hk
    · rename_i hu
      split at hp
      · exact ((sees_eqB (neg := false) he hop hu hp).does hr).wp hk
      · exact ((sees_eqB (neg := true) he hop hu hp).does hr).wp hk
      · exact hp.elim
    · rename_i u hu
      split at hp
      · rename_i i hi
        cases hcond : Nat.beq i.size 0
        · rw [hcond] at hp; exact ((sees_eqP (neg := false) hr he hop hu hi hp).does hr).wp hk
        · rw [hcond] at hp; exact hp.elim
      · rename_i i hi
        cases hcond : Nat.beq i.size 0
        · rw [hcond] at hp; exact ((sees_eqP (neg := true) hr he hop hu hi hp).does hr).wp hk
        · rw [hcond] at hp; exact hp.elim
      · exact hp.elim
    · rename_i el hu
      split at hp
      · exact ((sees_eqN (neg := false) hr he hop hu hp).does hr).wp hk
      · exact ((sees_eqN (neg := true) hr he hop hu hp).does hr).wp hk
      · exact hp.elim
    · rename_i ms hu
      cases hcond : (isConst x || isConst y)
      · rw [hcond] at hp; exact hp.elim
      · rw [hcond] at hp
        simp only [cond_true] at hp
        split at hp
        · exact ((sees_eqI (neg := false) he hop hu hcond hp).does hr).wp hk
        · exact ((sees_eqI (neg := true) he hop hu hcond hp).does hr).wp hk
        · exact hp.elim
    · rename_i fs hu
      cases hcond : (!P.stoodInHeld t && !P.eqGuardType P.depth t)
      · rw [hcond] at hp; exact hp.elim
      · rw [hcond] at hp
        simp only [Bool.and_eq_true, Bool.not_eq_true'] at hcond
        simp only [cond_true] at hp
        split at hp
        · rename_i ks hks; exact ((sees_eqA (neg := false) he hop hu hcond.1 hcond.2 hks hp).does hr).wp hk
        · rename_i ks hks; exact ((sees_eqA (neg := true) he hop hu hcond.1 hcond.2 hks hp).does hr).wp hk
        · exact hp.elim
    · exact hp.elim
  | unOp u t x => rw [hop] at hp; exact ((sees_un he hop hp).does hr).wp hk
  | convert s d x =>
    rw [hop] at hp
    simp only [cOp] at hp
    split at hp
    · rename_i hs hd; exact ((sees_conv he hop hs hd hp).does hr).wp hk
    · rename_i hs hd; exact ((sees_strConv he hop hs hd hp).does hr).wp hk
    · rename_i el hs hd
      split at hp
      · rename_i i hel hi
        cases hcond : Nat.beq i.size 1
        · rw [hcond] at hp; exact hp.elim
        · rw [hcond] at hp; exact ((sees_toStr hr he hop hs hel hd hp).does hr).wp hk
      · exact hp.elim
    · rename_i u hs hd
      split at hp
      · rename_i i hi
        cases hcond : Nat.beq i.size 0
        · rw [hcond] at hp; exact ((sees_toUns hr he hop hs hd hi (fun hz => by rw [hz] at hcond; simp at hcond) hp).does hr).wp hk
        · rw [hcond] at hp; exact hp.elim
      · exact hp.elim
    · rename_i u hs hd
      split at hp
      · rename_i i hi
        cases hcond : (!Nat.beq i.size 0 && (Nat.beq (P.cellsOf u) i.size && liesAt P P.depth u 1 0 u 1))
        · rw [hcond] at hp; exact hp.elim
        · rw [hcond] at hp
          simp only [Bool.and_eq_true, Bool.not_eq_true'] at hcond
          exact ((sees_fromUns hr he hop hs hd hi (fun hz => by rw [hz] at hcond; simp at hcond) (Nat.eq_of_beq_eq_true hcond.2.1) hcond.2.2 hp).does hr).wp hk
      · exact hp.elim
    · rename_i el hs hd
      split at hp
      · rename_i i hel hi
        cases hcond : Nat.beq i.size 1
        · rw [hcond] at hp; exact hp.elim
        · rw [hcond] at hp; exact (does_toBytes hr he hop hs hd hel hp).wp hk
      · exact hp.elim
    · exact hp.elim
  | makeFunc fn xs ys => rw [hop] at hp; exact ((sees_mkFunc he hop hp).does hr).wp hk
  | makeInterface t x =>
    rw [hop] at hp
    simp only [cOp] at hp
    split at hp
    · exact hp.elim
    · rename_i d hd hu; exact ((sees_mkIface he hop hu (fun ms hh => hd ms hh) hp).does hr).wp hk
    · exact hp.elim
  | slice t x lo hi mx =>
    rw [hop] at hp
    cases mx with
    | some m =>
      cases hi with
      | none => exact hp.elim
      | some hi =>
      simp only [cOp] at hp
      split at hp
      · rename_i el hu
        split at hp
        · rename_i i hi'; exact ((sees_slice3 he hop (by simp) hu hi' hp).does hr).wp hk
        · exact hp.elim
      · exact hp.elim
    | none =>
    simp only [cOp] at hp
    split at hp
    · rename_i el hu
      split at hp
      · rename_i i hi'; exact ((sees_slice he hop hu hi' hp).does hr).wp hk
      · exact hp.elim
    · rename_i hu; exact ((sees_sliceStr he hop hu hp).does hr).wp hk
    · rename_i n el hu
      split at hp
      · rename_i i hi'
        cases hcond : Nat.beq i.size 1
        · rw [hcond] at hp; exact hp.elim
        · rw [hcond] at hp; exact ((sees_sliceArr hr he hop hu hi' (Nat.eq_of_beq_eq_true hcond) hp).does hr).wp hk
      · exact hp.elim
    · exact hp.elim
  | fieldAddr t x f =>
    rw [hop] at hp
    simp only [cOp] at hp
    split at hp
    · rename_i fs hu
      split at hp
      · rename_i fd hf
        split at hp
        · rename_i i hi
          cases hcond : Nat.beq i.size 0
          · rw [hcond] at hp
            exact ((sees_fieldAddr he hop hu hf hi (fun hz => by rw [hz] at hcond; simp at hcond) hp).does hr).wp hk
          · rw [hcond] at hp; exact hp.elim
        · exact hp.elim
      · exact hp.elim
    · exact hp.elim
  | field t x f =>
    rw [hop] at hp
    simp only [cOp] at hp
    split at hp
    · rename_i fs hu
      split at hp
      · rename_i fd hf
        split at hp
        · rename_i i hag hi; exact (((sees_field he hop hu hf).2 i hag hi hp).does hr).wp hk
        · rename_i hag; exact (((sees_field he hop hu hf).1 hag hp).does hr).wp hk
        · exact hp.elim
      · exact hp.elim
    · exact hp.elim
  | indexAddr t x i =>
    rw [hop] at hp
    simp only [cOp] at hp
    split at hp
    · rename_i el hu
      split at hp
      · rename_i ti hti; exact ((sees_indexAddr he hop hu hti hp).does hr).wp hk
      · exact hp.elim
    · rename_i n el hu
      split at hp
      · rename_i ti hti; exact ((sees_indexArr hr he hop hu hti hp).does hr).wp hk
      · exact hp.elim
    · exact hp.elim
  | index t x i =>
    rw [hop] at hp
    simp only [cOp] at hp
    split at hp
    · rename_i hu; exact ((sees_index he hop hu hp).does hr).wp hk
    · exact hp.elim
  | extract x i => rw [hop] at hp; exact ((sees_extract he hop hp).does hr).wp hk
  | makeSlice t l cc =>
    rw [hop] at hp
    simp only [cOp] at hp
    split at hp
    · rename_i el hu
      split at hp
      · rename_i i hi
        split at hp
        · rename_i z hz
          cases hcond : (Nat.beq (ofVal 4 z).cells.length i.size && (ofVal 4 z).known)
          · rw [hcond] at hp; exact hp.elim
          · rw [hcond] at hp
            simp only [Bool.and_eq_true] at hcond
            exact (does_makeSlice hr he hop hu hi hz (Nat.eq_of_beq_eq_true hcond.1) hcond.2 hp).wp hk
        · exact hp.elim
      · exact hp.elim
    · exact hp.elim
  | call cl =>
    rw [hop] at hp
    simp only [cOp] at hp
    split at hp
    · rename_i f hcl
      cases hcond : callable P f
      · rw [hcond] at hp
        simp only [cond_false] at hp
        split at hp
        · rename_i fn x hf hargs
          cases hcond2 : (fn.body.isNone && (fn.name == "internal/abi.NoEscape" && fn.origin == ""))
          · rw [hcond2] at hp
            simp only [cond_false] at hp
            cases hcond3 : (fn.body.isNone && (fn.name == "internal/bytealg.MakeNoZero" && fn.origin == ""))
            · rw [hcond3] at hp; exact hp.elim
            · rw [hcond3] at hp
              simp only [Bool.and_eq_true, beq_iff_eq] at hcond3
              simp only [cond_true] at hp
              split at hp
              · rename_i t hrt
                split at hp
                · rename_i el hu; exact (does_mkNoZero hr he hop hcl hargs hf hcond3.1 hcond3.2.1 hcond3.2.2 hrt hu hp).wp hk
                · exact hp.elim
              · exact hp.elim
          · rw [hcond2] at hp
            simp only [Bool.and_eq_true, beq_iff_eq] at hcond2
            exact ((sees_noEsc he hop hcl hargs hf hcond2.1 hcond2.2.1 hcond2.2.2 hp).does hr).wp hk
        · rename_i fn x y hf hargs
          cases hcond2 : (fn.body.isNone && fn.origin == "")
          · rw [hcond2] at hp; exact hp.elim
          · rw [hcond2] at hp
            simp only [Bool.and_eq_true, beq_iff_eq] at hcond2
            simp only [cond_true] at hp
            split at hp
            · rename_i i hid; exact ((sees_ext1 he hop hcl hargs hf hcond2.1 hid hcond2.2 hp).does hr).wp hk
            · exact hp.elim
        · exact hp.elim
      · rw [hcond] at hp
        simp only [cond_true, aop, evsK_eq] at hp
        refine enter_wp hr (xs := cl.args.map a.eval) ?_ (by simp) (evs_rel he cl.args) (hΓ.call _ _ _ _ hp) hk hkp
        simp [execOp, hop, resolve, hcl, Act.eval, Deferred.ofValue, invoke, callFunc_run hcond]
    · rename_i v hnf hcl
      simp only [aop, evK_eq] at hp
      have hv := he.ev v
      split at hp
      · rename_i f first cap h1
        rw [h1] at hv
        replace hp := asr_iff.1 hp
        obtain ⟨hcond, hp⟩ := hp
        rw [evsK_eq] at hp
        obtain ⟨a', b', hvv, ha, hb, hva, hvb⟩ := hv.func_inv
        refine enter_wp hr (xs := a' ++ (cl.args.map a.eval ++ b')) ?_ (by simp [ha, hb]) (fun i u y hu hy => ?_) (hΓ.call _ _ _ _ hp) hk hkp
        · simp [execOp, hop, resolve, hcl, hvv, Deferred.ofValue, invoke, callFunc_run hcond]
        · rw [List.getElem?_append] at hu
          rw [Array.getElem?_append] at hy
          by_cases hi : i < first.length
          · rw [if_pos hi] at hu
            rw [if_pos (by omega)] at hy
            exact hva i u y hu hy
          · rw [if_neg hi] at hu
            rw [if_neg (by omega)] at hy
            rw [List.getElem?_append] at hu
            rw [Array.getElem?_append] at hy
            simp only [List.length_map, Array.length_toList, Array.size_map] at hu hy
            by_cases hi2 : i - first.length < cl.args.size
            · rw [if_pos hi2] at hu
              rw [if_pos (by omega)] at hy
              rw [ha] at hy
              exact evs_rel he cl.args _ u y hu hy
            · rw [if_neg hi2] at hu
              rw [if_neg (by omega)] at hy
              rw [ha] at hy
              exact hvb _ u y hu hy
      · exact hp.elim
    · rename_i hcl
      split at hp
      · rename_i x t hargs htys
        split at hp
        · rename_i hu; exact ((sees_len (b := true) he hop hcl hargs htys hu hp).does hr).wp hk
        · rename_i el hu; exact ((sees_len (b := false) he hop hcl hargs htys ⟨el, hu⟩ hp).does hr).wp hk
        · rename_i kt et hu; exact ((sees_lenM hr he hop hcl hargs htys hu hp).does hr).wp hk
        · exact hp.elim
      · exact hp.elim
    · rename_i hcl
      split at hp
      · rename_i x t hargs htys
        split at hp
        · rename_i el hu; exact ((sees_capOf he hop hcl hargs htys hu hp).does hr).wp hk
        · exact hp.elim
      · exact hp.elim
    · rename_i hcl
      split at hp
      · rename_i x y t u hargs htys
        split at hp
        · rename_i el hu
          split at hp
          · rename_i i hi; exact ((sees_copyZ he hop hcl hargs htys hu hi hp).does hr).wp hk
          · exact hp.elim
        · exact hp.elim
      · exact hp.elim
    · rename_i hcl
      split at hp
      · rename_i x t hargs htys
        split at hp
        · rename_i el hu
          split at hp
          · rename_i i hi
            split at hp
            · rename_i z hz
              cases hcond : (Nat.beq (ofVal 4 z).cells.length i.size && (ofVal 4 z).known)
              · rw [hcond] at hp; exact hp.elim
              · rw [hcond] at hp
                simp only [Bool.and_eq_true] at hcond
                exact (does_clr hr he hop hcl hargs htys hu hi hz (Nat.eq_of_beq_eq_true hcond.1) hcond.2 hp).wp hk
            · exact hp.elim
          · exact hp.elim
        · exact hp.elim
      · exact hp.elim
    · exact hp.elim
    · rename_i hcl
      split at hp
      · rename_i x hargs; exact ((sees_sliceData he hop hcl hargs hp).does hr).wp hk
      · exact hp.elim
    · rename_i hcl
      split at hp
      · rename_i x y t t2 hargs htys
        split at hp
        · rename_i el hu
          cases hcond : Nat.beq (P.cellsOf el) 1
          · rw [hcond] at hp; exact hp.elim
          · rw [hcond] at hp; exact (does_unsStr hr he hop hcl hargs htys hu (Nat.eq_of_beq_eq_true hcond) hp).wp hk
        · exact hp.elim
      · exact hp.elim
    · rename_i hcl
      split at hp
      · rename_i x y hargs; exact ((sees_mm (m := false) he hop hcl hargs hp).does hr).wp hk
      · exact hp.elim
    · rename_i hcl
      split at hp
      · rename_i x y hargs; exact ((sees_mm (m := true) he hop hcl hargs hp).does hr).wp hk
      · exact hp.elim
    · rename_i hcl
      split at hp
      · rename_i x hargs
        have hargs' : cl.args = #[x] := by simpa using congrArg List.toArray hargs
        exact panic_wp hr he (fun t y hy => by simp [execOp, hop, resolve, hcl, hargs', invoke, builtin, hy, Instr.panic]) hp hkp
      · exact hp.elim
    · rename_i hcl
      split at hp
      · rename_i x y t u hargs htys
        split at hp
        · rename_i el hu
          cases hcond : sliceOrStr (P.underlying u)
          · rw [hcond] at hp; exact hp.elim
          · rw [hcond] at hp
            have hku : (∃ e', P.underlying u = some (.slice e')) ∨ P.underlying u = some .string := by
              unfold sliceOrStr at hcond
              split at hcond
              · rename_i e' h1; exact .inl ⟨e', h1⟩
              · rename_i h1; exact .inr h1
              · cases hcond
            simp only [cond_true] at hp
            split at hp
            · rename_i i hi
              split at hp
              · rename_i z hz
                cases hcond2 : (Nat.beq (ofVal 4 z).cells.length i.size && (ofVal 4 z).known)
                · rw [hcond2] at hp; exact hp.elim
                · rw [hcond2] at hp
                  simp only [Bool.and_eq_true] at hcond2
                  exact (does_append hr he hop hcl hargs htys hu hku hi hz (Nat.eq_of_beq_eq_true hcond2.1) hcond2.2 hp).wp hk
              · exact hp.elim
            · exact hp.elim
        · exact hp.elim
      · exact hp.elim
    · exact hp.elim
  | range t x =>
    rw [hop] at hp
    simp only [cOp] at hp
    split at hp
    · rename_i hu; exact (does_rangeS hr he hop hu hp).wp hk
    · rename_i kt et hu; exact (does_rangeM hr he hop hu hp).wp hk
    · exact hp.elim
  | next x b =>
    rw [hop] at hp
    cases b with
    | true => exact (does_nextS hr he hop hp).wp hk
    | false => exact (does_nextM hr he hop hp).wp hk
  | makeMap t r =>
    rw [hop] at hp
    cases r with
    | none => exact (does_mkMap hr hop hp).wp hk
    | some r => exact hp.elim
  | mapUpdate t m x y =>
    rw [hop] at hp
    simp only [cOp] at hp
    split at hp
    · rename_i kt et hu
      split at hp
      · rename_i b hkt; exact (does_mapSet hr he (.inl hop) hu hkt hp).wp hk
      · exact hp.elim
    · exact hp.elim
  | insert t m x y =>
    rw [hop] at hp
    simp only [cOp] at hp
    split at hp
    · rename_i kt et hu
      split at hp
      · rename_i b hkt; exact (does_mapSet hr he (.inr hop) hu hkt hp).wp hk
      · exact hp.elim
    · exact hp.elim
  | lookup t m x ok =>
    rw [hop] at hp
    simp only [cOp] at hp
    split at hp
    · rename_i kt et hu
      split at hp
      · rename_i i hi
        split at hp
        · rename_i z hz
          split at hp
          · rename_i b hkt
            cases hcond : solidB 4 (ofVal 4 z)
            · rw [hcond] at hp; exact hp.elim
            · rw [hcond] at hp; exact ((does_mapGet hr he hop hu hkt hi hz hcond hp).does hr).wp hk
          · exact hp.elim
        · exact hp.elim
      · exact hp.elim
    · exact hp.elim
  | typeAssert x xt t ok =>
    rw [hop] at hp
    simp only [cOp] at hp
    split at hp
    · exact hp.elim
    · rename_i d i hd hu hi
      split at hp
      · rename_i z hz
        cases hcond : solidB 4 (ofVal 4 z)
        · rw [hcond] at hp; exact hp.elim
        · rw [hcond] at hp; exact ((sees_tyAs he hop hu (fun ms hh => hd ms hh) hi hz hp).does hr).wp hk
      · exact hp.elim
    · exact hp.elim
  | defer cl =>
    rw [hop] at hp
    simp only [cOp] at hp
    split at hp
    · exact hp.elim
    · exact hp.elim
  | entry x => rw [hop] at hp; exact (does_entry hr he hop hp).wp hk
  | nilCheck x => rw [hop] at hp; exact ((sees_nilChk he hop hp).does hr).wp hk
  | panic x => rw [hop] at hp; exact panic_wp hr he (fun t y hy => by simp [execOp, hop, hy, Instr.panic]) hp hkp
  | _ => rw [hop] at hp; exact hp.elim
end
theorem put_size (a : Act) (d : Option Nat) (v : Value) : (a.put d v).tmps.size = a.tmps.size := by cases d <;> simp [Act.put]
theorem put_defers (a : Act) (d : Option Nat) (v : Value) : (a.put d v).defers = a.defers := by cases d <;> rfl
end Ab
